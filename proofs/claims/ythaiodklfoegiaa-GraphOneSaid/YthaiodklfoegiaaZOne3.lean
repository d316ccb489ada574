/- Several texts of this session in one file, in their build order: MAllows, MRelPure, MAbout2, MRel, CMasks, CClone, CSame, GValid, GValidMain, CCompile, PGx44. -/
import Derived.Test.YthaiodklfoegiaaZOne2
import Derived.WalkSpells
import Derived.Test.YthaiodklfoegiaaZOne1
import Derived.Deep.DeepCutAuto
/- mean.Allows. -/
namespace Go.Proofs.Ythaiodklfoegiaa.MPol
open Go.RowKit Go.Proofs.YthaiodklfoegiaaW.PrintWords Go.Proofs.YthaiodklfoegiaaW.PrintLast Go.Proofs.YthaiodklfoegiaaW.PrintMore Go.Proofs.Ythaiodklfoegiaa.BMap Go.Proofs.Ythaiodklfoegiaa.BRow Go.Proofs.Ythaiodklfoegiaa.MLines Go.Proofs.Ythaiodklfoegiaa.MPut Go.Proofs.Ythaiodklfoegiaa.MClose Go.Proofs.Ythaiodklfoegiaa.MConcat Go.Proofs.Ythaiodklfoegiaa.MStand Go.Proofs.Ythaiodklfoegiaa.MSide Go.Maps
open Go.Proofs.Ythaiodklfoegiaa Go.Proofs.Ythaiodklfoegiaa.PG Go.Proofs.YthaiodklfoegiaaF

/-- The rules that speak of a subject and an object. -/
noncomputable def PolD.speak (d : PolD) (s o : ByteArray) (tr : Nat) : List S78 := d.rules.filter fun r => speaksB r (d.who s) (d.what o) tr
open Classical in
/-- Does a policy allow a triple? -/
noncomputable def PolD.allowB (d : PolD) (t : S28) : Bool := (d.trust t.f0).isSome && (decide (t.f1 ∈ d.objs) && (decide (t.f2 ∈ d.acts) && allowsF (d.speak t.f0 t.f1 ((d.trust t.f0).getD 0)) d.exc t))

/-- Allows' variables. -/
structure AlS (p : Pol) (w : World) (t : S28) (g5 g7 : Nat) (v5 v7 : Array Value) (W : World) : Prop where
  below : Below w.heap.size w W
  s0 : Stays W w.heap.size p.cells 39
  s1 : Stays W (w.heap.size + 1) (tripV t) 28
  s5 : Stays W g5 v5 95
  s7 : Stays W g7 v7 95
theorem AlS.move {p : Pol} {w W W1 : World} {t : S28} {g5 g7 : Nat} {v5 v7 : Array Value} (h : AlS p w t g5 g7 v5 v7 W) (hb : Below W.heap.size W W1) : AlS p w t g5 g7 v5 v7 W1 := ⟨below_then h.below h.below.size hb, h.s0.below hb, h.s1.below hb, h.s5.below hb, h.s7.below hb⟩
theorem Stays.range {w : World} {g t : Nat} {cs : Array Value} (h : Stays w g cs t) (l : List Value) (hl : cs.toList = l) : w.rangeAt g 0 l := fun j v hv => by
  subst hl
  rw [h.cell, Nat.zero_add, ← hv]; simp
theorem SideOf.ones {W : World} {q : Bool} {v : Array Value} {name : ByteArray} {trust : Nat} {R : ByteArray → Prop} (h : SideOf W q v name trust R) : ∀ u ∈ v.toList, u.oneCell' = true := fun u hu => Array.all_eq_true_iff_forall_mem.1 h.one u (by simpa using hu)
theorem info_of {v : Array Value} (h : v.size = 3) : (Try.prog.info? 95).map (·.size) = some v.size := by rw [h]; exact i95
theorem about_to (p : Pol) (n1 : ByteArray) (t1 b1 : Nat) (R1 : ByteArray → Prop) (n2 : ByteArray) (t2 b2 : Nat) (R2 : ByteArray → Prop) (w : World) (hp : p.In w) (hd : p.d.Ok) (h1 : IsSet w b1 R1) (h2 : IsSet w b2 R2) (v1 v2 : Array Value) (hv1 : v1 = sideV n1 t1 b1) (hv2 : v2 = sideV n2 t2 b2) :
    Calls Try.prog 64 #[.agg p.cells, .agg v1, .agg v2] w fun e w' => ∃ v, e = .returned v ∧ ∃ A c, v = .slice A (p.d.rules.filter fun r => speaksB r R1 R2 t1).length c ∧ (p.d.rules.filter fun r => speaksB r R1 R2 t1).length ≤ c ∧ Kd.C k78 w' A (p.d.rules.filter fun r => speaksB r R1 R2 t1).length (p.d.rules.filter fun r => speaksB r R1 R2 t1) ∧ Below w.heap.size w w' := by
  subst hv1; subst hv2; exact about_calls p n1 t1 b1 R1 n2 t2 b2 R2 w hp hd h1 h2
theorem i39 : (Try.prog.info? 39).map (·.size) = some 11 := by kernel_rfl

end Go.Proofs.Ythaiodklfoegiaa.MPol

/- What Relation has got so far, in plain words. -/
namespace Go.Proofs.Ythaiodklfoegiaa.MPol
open Go.RowKit Go.Proofs.Ythaiodklfoegiaa.PG

/-- ns: the subjects' names; LO, LA: the objects, the actions; up to (i, j, l). -/
def Got (d : PolD) (ns LO LA : List ByteArray) (i j l : Nat) (t : S28) : Prop :=
  d.allowB t = true ∧ t.f1 ∈ LO ∧ t.f2 ∈ LA ∧ (t.f0 ∈ ns.take i ∨ ∃ h : i < ns.length, t.f0 = ns[i] ∧ (t.f1 ∈ LO.take j ∨ ∃ h : j < LO.length, t.f1 = LO[j] ∧ t.f2 ∈ LA.take l))
section
variable {d : PolD} {ns LO LA : List ByteArray} {i j l : Nat} {t : S28}
theorem Got.start : ¬ Got d ns LO LA 0 0 0 t := by
  rintro ⟨-, -, -, h | ⟨_, -, h | ⟨_, -, h⟩⟩⟩
  · simp at h
  · simp at h
  · simp at h
theorem Got.next (hi : i < ns.length) (hj : j < LO.length) (hl : l < LA.length) : Got d ns LO LA i j (l + 1) t ↔ (Got d ns LO LA i j l t ∨ (t = ⟨ns[i], LO[j], LA[l]⟩ ∧ d.allowB t = true)) := by
  have htk : LA.take (l + 1) = LA.take l ++ [LA[l]] := List.take_succ_eq_append_getElem hl
  unfold Got
  rw [htk]
  constructor
  · rintro ⟨h1, h2, h3, h4 | ⟨_, h5, h6 | ⟨_, h7, h8⟩⟩⟩
    · exact .inl ⟨h1, h2, h3, .inl h4⟩
    · exact .inl ⟨h1, h2, h3, .inr ⟨hi, h5, .inl h6⟩⟩
    · rcases List.mem_append.1 h8 with h8 | h8
      · exact .inl ⟨h1, h2, h3, .inr ⟨hi, h5, .inr ⟨hj, h7, h8⟩⟩⟩
      · refine .inr ⟨?_, h1⟩
        have h9 := List.mem_singleton.1 h8
        rw [← h5, ← h7, ← h9]
  · rintro (⟨h1, h2, h3, h4 | ⟨_, h5, h6 | ⟨_, h7, h8⟩⟩⟩ | ⟨rfl, h1⟩)
    · exact ⟨h1, h2, h3, .inl h4⟩
    · exact ⟨h1, h2, h3, .inr ⟨hi, h5, .inl h6⟩⟩
    · exact ⟨h1, h2, h3, .inr ⟨hi, h5, .inr ⟨hj, h7, List.mem_append_left _ h8⟩⟩⟩
    · exact ⟨h1, List.getElem_mem hj, List.getElem_mem hl, .inr ⟨hi, rfl, .inr ⟨hj, rfl, List.mem_append_right _ (List.mem_singleton.2 rfl)⟩⟩⟩
theorem Got.nextObj (hj : j < LO.length) : Got d ns LO LA i j LA.length t ↔ Got d ns LO LA i (j + 1) 0 t := by
  have htk : LO.take (j + 1) = LO.take j ++ [LO[j]] := List.take_succ_eq_append_getElem hj
  unfold Got
  rw [htk, List.take_length]
  constructor
  · rintro ⟨h1, h2, h3, h4 | ⟨hi, h5, h6 | ⟨_, h7, h8⟩⟩⟩
    · exact ⟨h1, h2, h3, .inl h4⟩
    · exact ⟨h1, h2, h3, .inr ⟨hi, h5, .inl (List.mem_append_left _ h6)⟩⟩
    · exact ⟨h1, h2, h3, .inr ⟨hi, h5, .inl (by rw [h7]; exact List.mem_append_right _ (List.mem_singleton.2 rfl))⟩⟩
  · rintro ⟨h1, h2, h3, h4 | ⟨hi, h5, h6 | ⟨_, h7, h8⟩⟩⟩
    · exact ⟨h1, h2, h3, .inl h4⟩
    · rcases List.mem_append.1 h6 with h6 | h6
      · exact ⟨h1, h2, h3, .inr ⟨hi, h5, .inl h6⟩⟩
      · exact ⟨h1, h2, h3, .inr ⟨hi, h5, .inr ⟨hj, List.mem_singleton.1 h6, h3⟩⟩⟩
    · simp at h8
theorem Got.nextSub (hi : i < ns.length) : Got d ns LO LA i LO.length 0 t ↔ Got d ns LO LA (i + 1) 0 0 t := by
  have htk : ns.take (i + 1) = ns.take i ++ [ns[i]] := List.take_succ_eq_append_getElem hi
  unfold Got
  rw [htk, List.take_length]
  constructor
  · rintro ⟨h1, h2, h3, h4 | ⟨_, h5, h6 | ⟨h, _⟩⟩⟩
    · exact ⟨h1, h2, h3, .inl (List.mem_append_left _ h4)⟩
    · exact ⟨h1, h2, h3, .inl (by rw [h5]; exact List.mem_append_right _ (List.mem_singleton.2 rfl))⟩
    · omega
  · rintro ⟨h1, h2, h3, h4 | ⟨_, h5, h6 | ⟨_, h7, h8⟩⟩⟩
    · rcases List.mem_append.1 h4 with h4 | h4
      · exact ⟨h1, h2, h3, .inl h4⟩
      · exact ⟨h1, h2, h3, .inr ⟨hi, List.mem_singleton.1 h4, .inl h2⟩⟩
    · simp at h6
    · simp at h8
theorem Got.all : Got d ns LO LA ns.length 0 0 t ↔ (d.allowB t = true ∧ t.f1 ∈ LO ∧ t.f2 ∈ LA ∧ t.f0 ∈ ns) := by
  unfold Got
  rw [List.take_length]
  constructor
  · rintro ⟨h1, h2, h3, h4 | ⟨h, _⟩⟩
    · exact ⟨h1, h2, h3, h4⟩
    · omega
  · rintro ⟨h1, h2, h3, h4⟩
    exact ⟨h1, h2, h3, .inl h4⟩
end
end Go.Proofs.Ythaiodklfoegiaa.MPol

/- mean.about, its row as the call's own. -/
namespace Go.Proofs.Ythaiodklfoegiaa.MPol
open Go.RowKit Go.Proofs.YthaiodklfoegiaaW.PrintWords Go.Proofs.YthaiodklfoegiaaW.PrintLast Go.Proofs.YthaiodklfoegiaaW.PrintMore Go.Proofs.Ythaiodklfoegiaa.BMap Go.Proofs.Ythaiodklfoegiaa.BRow Go.Proofs.Ythaiodklfoegiaa.MLines Go.Proofs.Ythaiodklfoegiaa.MPut Go.Proofs.Ythaiodklfoegiaa.MClose Go.Proofs.Ythaiodklfoegiaa.MConcat Go.Proofs.Ythaiodklfoegiaa.MStand Go.Proofs.Ythaiodklfoegiaa.MSide Go.Maps
open Go.Proofs.Ythaiodklfoegiaa Go.Proofs.Ythaiodklfoegiaa.PG Go.Proofs.YthaiodklfoegiaaF

set_option maxHeartbeats 1000000 in
set_option maxRecDepth 100000 in
theorem about_own (p : Pol) (w0 : World) (n1 : ByteArray) (t1 b1 : Nat) (R1 : ByteArray → Prop) (n2 : ByteArray) (t2 b2 : Nat) (R2 : ByteArray → Prop) (w : World) (hw0 : Below w0.heap.size w0 w) (hp0 : p.In w0) (hd : p.d.Ok) (h1 : IsSet w b1 R1) (h2 : IsSet w b2 R2) :
    Calls Try.prog 64 #[.agg p.cells, .agg (sideV n1 t1 b1), .agg (sideV n2 t2 b2)] w fun e w' => ∃ v, e = .returned v ∧ OwnRow (k78.K w0) 78 6 w' w.heap.size v (p.d.rules.filter fun r => speaksB r R1 R2 t1) ∧ Below w.heap.size w w' := by
  obtain ⟨d, A0, c0, A1, c1, A2, c2, A3, c3, A4, c4, A5, c5, A6, c6, A7, c7, A8, c8, A9, c9, A10, c10⟩ := p
  have hp := hp0.below hw0
  have hmax : d.rules.length ≤ 9223372036854775807 := hp.h9.2.1
  have HP0 := Aside0.mk hp0
  have HW0 := Aside0.mk hw0
  have hlt1 := h1.lt
  have hlt2 := h2.lt
  have HP := Aside0.mk hp
  have HD := Aside0.mk hd
  have hA := Abt.start (Pol.mk d A0 c0 A1 c1 A2 c2 A3 c3 A4 c4 A5 c5 A6 c6 A7 c7 A8 c8 A9 c9 A10 c10) w (sideV n1 t1 b1) (sideV n2 t2 b2) h1 h2
  have e9 := hA.s0.cell 9
  simp only [Pol.cells, List.getElem?_toArray, List.getElem?_cons_zero, List.getElem?_cons_succ] at e9
  have HA := Aside0.mk hA
  clear hA hp hd h1 h2 hp0 hw0
  unfold Pol.cells
  unfold Pol.cells at HA
  obtain ⟨v1, hv1⟩ : ∃ v1, v1 = sideV n1 t1 b1 := ⟨_, rfl⟩
  obtain ⟨v2, hv2⟩ : ∃ v2, v2 = sideV n2 t2 b2 := ⟨_, rfl⟩
  have sz1 : v1.size = 3 := by rw [hv1]; rfl
  have sz2 : v2.size = 3 := by rw [hv2]; rfl
  rw [← hv1, ← hv2] at HA ⊢
  rw [← hv1, ← hv2] at e9
  have HV1 := Aside0.mk hv1
  have HV2 := Aside0.mk hv2
  have HSZ1 := Aside0.mk sz1
  have HSZ2 := Aside0.mk sz2
  clear hv1 hv2 sz1 sz2
  simp only [] at HA e9 ⊢
  go_enter Try.func64, Try.ntmps64
  go_wp2
  clear e9
  go_loopw [7, 13] (fun u7 u13 wr => ∃ k : Nat, k ≤ d.rules.length ∧ u13 = .int .i64 k ∧ Aside0 (Abt (Pol.mk d A0 c0 A1 c1 A2 c2 A3 c3 A4 c4 A5 c5 A6 c6 A7 c7 A8 c8 A9 c9 A10 c10) w wr v1 v2 b1 b2 R1 R2) ∧ Aside0 (OwnRow (k78.K w0) 78 6 wr w.heap.size u7 ((d.rules.take k).filter fun r => speaksB r R1 R2 t1))) (fun _ u13 _ => d.rules.length - (intOf u13).toNat)
  case atStart => exact ⟨0, Nat.zero_le _, rfl, HA, ⟨OwnRow.none_ _ _ _ _ _⟩⟩
  case round =>
    obtain ⟨k, hk, rfl, HR, HRow⟩ := hrel
    obtain ⟨Ao, co, rfl, hlo⟩ := HRow.out.slice_
    by_cases hlt : k < d.rules.length
    · obtain ⟨ad, cs, e0, hcl, hK, hcell⟩ := Kd.C_get HP0.out.h9 z78 (k : Int) (by omega) (by simp only []; omega)
      have e0 : A9 = some ad := e0
      subst e0
      have hget : d.rules.getD (k : Int).toNat z78 = d.rules[k] := by simp [hlt]
      have hK : k78.K w0 d.rules[k] cs := by rw [← hget]; exact hK
      have htk : d.rules.take (k + 1) = d.rules.take k ++ [d.rules[k]] := List.take_succ_eq_append_getElem hlt
      have hro := HD.out.rules d.rules[k] (List.getElem_mem hlt)
      obtain ⟨x, hxx⟩ : ∃ x, x = d.rules[k] := ⟨_, rfl⟩
      rw [← hxx] at hK htk hro
      obtain ⟨A3', c3', rfl, l3, g3⟩ := k78_open hK
      have hcw : ∀ (j : Nat) (v : Value), ([.bool x.f0, .string x.f1, .string x.f2, .slice A3' x.f3.length c3', .int .i8 x.f4, .float .f64 x.f5] : List Value)[j]? = some v → wr.cell? ((ad.add (k * 6)).add j) = some v := by
        intro j v hj
        have h0 := hcell j v hj
        have h0 : w0.cell? (ad.add (k * 6 + j)) = some v := h0
        rw [add_add]
        exact pw_cell_below HR.out.below (pw_cell_below HW0.out h0)
      have HCW := Aside0.mk hcw
      have HTK := Aside0.mk htk
      have HRO := Aside0.mk hro
      have HL3 := Aside0.mk l3
      have HG3 := Aside0.mk g3
      have HK := Aside0.mk hK
      have c0' : (k : Int) < d.rules.length := by omega
      clear hcell hK hget htk hro hxx hcw hcl l3 g3
      go_upto_region 5 with (first | ((with_reducible refine gate_dst (N := 16) rfl ?_); refine wpList_load_at rfl 78 (.tmp 15) rfl (ad.add (k * 6)) ?hx [.bool x.f0, .string x.f1, .string x.f2, .slice A3' x.f3.length c3', .int .i8 x.f4, .float .f64 x.f5] HCW.out _ Try.underlying78 rfl i78 ?_; (case hx => rfl); refine wpList_alloc_store rfl rfl 78 9 (.tmp 16) rfl rfl rfl #[(.bool false), (.string ⟨#[]⟩), (.string ⟨#[]⟩), (.slice none 0 0), (.int .i8 0), (.float .f64 0)] (ruleV x A3' c3') _ (z78v _) rfl i78 rfl (by simp [ruleV, Value.oneCell']) ?hy ?hp ?_; (case hy => rfl); (case hp => rfl)))
      simp only [Act.put, List.setIfInBounds_toArray, List.set_cons_succ, List.set_cons_zero]
      have hS2 := heap_alloc_new wr (.cells (ruleV x A3' c3') 78)
      have hb2 := below_alloc (Below.refl _ wr) (.cells (ruleV x A3' c3') 78)
      have hA2 := HR.out.move hb2
      have hR2 := HRow.out.below hb2
      obtain ⟨W2, hW2⟩ : ∃ W2, W2 = wr.alloc (.cells (ruleV x A3' c3') 78) := ⟨_, rfl⟩
      obtain ⟨g9, hg9⟩ : ∃ g9, g9 = wr.heap.size := ⟨_, rfl⟩
      rw [← hg9] at hS2 ⊢
      rw [← hW2] at hS2 hA2 hR2 ⊢
      have hS2 : Stays W2 g9 (ruleV x A3' c3') 78 := hS2
      have HA2 := Aside0.mk hA2
      have HR2 := Aside0.mk hR2
      have HS2 := Aside0.mk hS2
      clear hS2 hA2 hR2 hW2 hg9 hb2
      obtain ⟨q, hq⟩ : ∃ q, speaksB x R1 R2 t1 = q := ⟨_, rfl⟩
      have HQ := Aside0.mk hq
      clear hq
      go_upto_if 20 with (first | ((with_reducible refine gate_dst (N := 17) rfl ?_); refine wpList_load_blk rfl 78 (.tmp 9) rfl g9 ?hx (ruleV x A3' c3') 78 HS2.out _ Try.underlying78 rfl i78 ?_; (case hx => rfl)) | ((with_reducible refine gate_dst (N := 18) rfl ?_); refine wpList_load_blk rfl 95 (.tmp 4) rfl (w.heap.size + 1) ?hx v1 95 HA2.out.s1 _ Try.underlying95 rfl (by rw [HSZ1.out]; exact i95) ?_; (case hx => rfl)) | ((with_reducible refine gate_dst (N := 19) rfl ?_); refine wpList_load_blk rfl 95 (.tmp 5) rfl (w.heap.size + 1 + 1) ?hx v2 95 HA2.out.s2 _ Try.underlying95 rfl (by rw [HSZ2.out]; exact i95) ?_; (case hx => rfl)) | (go_at_call 78; (with_reducible refine (speaks_go x A3' c3' n1 t1 b1 R1 n2 t2 b2 R2 _ q HQ.out (Kd.C_below (Kd.C_below HG3.out HW0.out) HA2.out.below) HL3.out HA2.out.set1 HA2.out.set2 HRO.out.1 HRO.out.2 v1 v2 HV1.out HV2.out).mono ?_); rintro e w3 ⟨rfl, hb3⟩; have HA3 := Aside0.mk (HA2.out.move hb3); have HR3 := Aside0.mk (HR2.out.below hb3); have HS3 := Aside0.mk (HS2.out.below hb3); clear hb3))
      have hlim : (((d.rules.take k).filter fun r => speaksB r R1 R2 t1).length + 1) * 80 ≤ 140737488355328 := by
        have h1 := List.length_filter_le (fun r => speaksB r R1 R2 t1) (d.rules.take k)
        rw [List.length_take] at h1
        have h2 := HD.out.lrules
        omega
      have HLIM := Aside0.mk hlim
      clear hlim
      have hfil : (d.rules.take (k + 1)).filter (fun r => speaksB r R1 R2 t1) = (d.rules.take k).filter (fun r => speaksB r R1 R2 t1) ++ if q = true then [x] else [] := by
        rw [HTK.out, List.filter_append, List.filter_cons, HQ.out]
        cases q <;> simp
      have HFIL := Aside0.mk hfil
      clear hfil
      obtain ⟨L, hL⟩ : ∃ L, L = (d.rules.take k).filter (fun r => speaksB r R1 R2 t1) := ⟨_, rfl⟩
      rw [← hL] at HR3 HLIM HFIL hlo ⊢
      have HLL := Aside0.mk hL
      clear hL
      have HNB := Aside0.mk (fun (b : Nat) (hb : b < w.heap.size) => show some b ≠ (Value.slice Ao L.length co).ownBlock from fun e => by
        obtain ⟨inner, ho, _⟩ := HR3.out
        have := own_base ho b e.symm
        omega)
      cases q with
      | true =>
        go_wp2_with (first | ((with_reducible refine gate_dst (N := 22) rfl ?_); refine wpList_load_blk rfl 78 (.tmp 9) rfl g9 ?hx #[.bool x.f0, .string x.f1, .string x.f2, .slice A3' x.f3.length c3', .int .i8 x.f4, .float .f64 x.f5] 78 HS3.out _ Try.underlying78 rfl i78 ?_; (case hx => rfl)) | ((with_reducible refine gate_builtin (b := .append) (xs := #[.tmp 21, .tmp 23]) rfl ?_); at_builtin; refine OwnRow.append (w0 := w) w.heap.size rfl (.tmp 21) (.tmp 23) 36 78 (.agg #[(.bool false), (.string ⟨#[]⟩), (.string ⟨#[]⟩), (.slice none 0 0), (.int .i8 0), (.float .f64 0)]) 6 80 rfl Try.underlying36 info78 rfl (by decide) (by decide) _ L x [.bool x.f0, .string x.f1, .string x.f2, .slice A3' x.f3.length c3', .int .i8 x.f4, .float .f64 x.f5] rfl rfl HK.out rfl (k78.K_one HK.out) HR3.out HA3.out.below HA3.out.below.size HLIM.out ?_; intro v8 w8 hR8 hB8 hg8 hat8; have HR8 := Aside0.mk hR8; have HA8 := Aside0.mk (HA3.out.grown hg8 hB8 (HR3.out.ne_block HA3.out.s0 (by decide)) (HR3.out.ne_block HA3.out.s1 (by decide)) (HR3.out.ne_block HA3.out.s2 (by decide)) (HNB.out _ hlt1) (HNB.out _ hlt2)); clear hR8 hB8 hg8 hat8))
        go_roundw
        case rel => exact ⟨k + 1, by omega, by go_num, HA8, ⟨by rw [HFIL.out, if_pos rfl]; exact HR8.out⟩⟩
        case measure => simp [intOf]; omega
      | false =>
        go_wp2
        go_roundw
        case rel => exact ⟨k + 1, by omega, by go_num, HA3, ⟨by rw [HFIL.out, if_neg (by simp), List.append_nil]; exact HR3.out⟩⟩
        case measure => simp [intOf]; omega
    · have hkk : k = d.rules.length := by omega
      subst hkk
      have hfin := HRow.out
      rw [List.take_length] at hfin
      rw [List.take_length]
      have HFI := Aside0.mk hfin
      clear hfin hlo
      go_wp2
      go_ret
      rw [List.take_length] at *
      exact ⟨_, rfl, HFI.out, HR.out.below⟩
end Go.Proofs.Ythaiodklfoegiaa.MPol

/- mean.Relation. -/
namespace Go.Proofs.Ythaiodklfoegiaa.MPol
open Go.RowKit Go.Proofs.YthaiodklfoegiaaW.PrintWords Go.Proofs.YthaiodklfoegiaaW.PrintLast Go.Proofs.YthaiodklfoegiaaW.PrintMore Go.Proofs.Ythaiodklfoegiaa.BMap Go.Proofs.Ythaiodklfoegiaa.BRow Go.Proofs.Ythaiodklfoegiaa.MLines Go.Proofs.Ythaiodklfoegiaa.MPut Go.Proofs.Ythaiodklfoegiaa.MClose Go.Proofs.Ythaiodklfoegiaa.MConcat Go.Proofs.Ythaiodklfoegiaa.MStand Go.Proofs.Ythaiodklfoegiaa.MSide Go.Maps
open Go.Proofs.Ythaiodklfoegiaa Go.Proofs.Ythaiodklfoegiaa.PG Go.Proofs.YthaiodklfoegiaaF

/-- A side in a row: its name, its trust, its set's block. -/
abbrev SD := ByteArray × Nat × Nat
def RS (x : SD) (cs : List Value) : Prop := cs = [.string x.1, .float .f64 x.2.1, .map (some x.2.2)]
theorem RS_mk (n : ByteArray) (t b : Nat) : RS (n, t, b) [.string n, .float .f64 t, .map (some b)] := rfl
theorem info95 : (Try.prog.info? 95).map (fun i => (i.zero, i.size, i.bytes)) = some (some (.agg #[.string ⟨#[]⟩, .float .f64 0, .map none]), 3, 32) := by kernel_rfl
/-- A row of sides, and their sets. -/
structure Sides (w wr : World) (v : Value) (ps : List SD) (R : ByteArray → Nat → ByteArray → Prop) (T : ByteArray → Nat → Prop) : Prop where
  row : OwnRow RS 95 3 wr w.heap.size v ps
  sets : ∀ x ∈ ps, IsSet wr x.2.2 (R x.1 x.2.1)
  trust : ∀ x ∈ ps, T x.1 x.2.1
  below : Below w.heap.size w wr
theorem Sides.move {w wr w1 : World} {v : Value} {ps : List SD} {R : ByteArray → Nat → ByteArray → Prop} {T : ByteArray → Nat → Prop} (h : Sides w wr v ps R T) (hb : Below wr.heap.size wr w1) : Sides w w1 v ps R T :=
  ⟨h.row.below hb, fun x hx => (h.sets x hx).below hb, h.trust, below_then h.below h.below.size hb⟩
theorem set_ne {W : World} {b : Nat} {R : ByteArray → Prop} (h : IsSet W b R) {α : Type} {Rr : α → List Value → Prop} {e size base : Nat} {v : Value} {ps : List α} (ho : OwnRow Rr e size W base v ps) : some b ≠ v.ownBlock := by
  intro hk
  obtain ⟨f, n, hM, _⟩ := h
  obtain ⟨es, cl, l, h1, _⟩ := hM.out
  obtain ⟨inner, hown, _⟩ := ho
  obtain ⟨cells, hc⟩ := own_typed hown b hk.symm
  rw [h1] at hc
  cases hc
theorem set_grown {W W1 : World} {b : Nat} {R : ByteArray → Prop} (h : IsSet W b R) {row : Option Nat} (hg : W.grownBy W1 row) (hne : some b ≠ row) : IsSet W1 b R := by
  obtain ⟨f, n, hM, hf⟩ := h
  exact ⟨f, n, hM.grown hg hne, hf⟩
/-- One side more. -/
theorem Sides.put {w wr w1 : World} {v v1 : Value} {ps : List SD} {R : ByteArray → Nat → ByteArray → Prop} {T : ByteArray → Nat → Prop} {x : SD} (h : Sides w wr v ps R T) (hx : IsSet wr x.2.2 (R x.1 x.2.1)) (ht : T x.1 x.2.1) (hr : OwnRow RS 95 3 w1 w.heap.size v1 (ps ++ [x])) (hg : wr.grownBy w1 v.ownBlock) (hb : Below w.heap.size w w1) : Sides w w1 v1 (ps ++ [x]) R T where
  row := hr
  sets := fun y hy => by
    rcases List.mem_append.1 hy with hy | hy
    · exact set_grown (h.sets y hy) hg (set_ne (h.sets y hy) h.row)
    · rw [List.mem_singleton.1 hy]; exact set_grown hx hg (set_ne hx h.row)
  trust := fun y hy => by
    rcases List.mem_append.1 hy with hy | hy
    · exact h.trust y hy
    · rw [List.mem_singleton.1 hy]; exact ht
  below := hb

theorem trust_some {d : PolD} {s : ByteArray} (h : ∃ y ∈ d.subs, y.f0 = s) : ∃ tr, d.trust s = some tr := by
  unfold PolD.trust
  cases hf : d.subs.find? (fun x => decide (x.f0 = s)) with
  | none =>
    obtain ⟨y, hy, he⟩ := h
    have := List.find?_eq_none.1 hf y hy
    simp [he] at this
  | some y => exact ⟨y.f1, rfl⟩
theorem subject_go (p : Pol) (s : ByteArray) (w : World) (hp : p.In w) (hd : p.d.Ok) (hs : okS s) (tr : Nat) (ht : p.d.trust s = some tr) :
    Calls Try.prog 60 #[.agg p.cells, .string s] w fun e w' => ∃ b, e = .returned (.tuple #[.agg #[.string s, .float .f64 tr, .map (some b)], .bool true]) ∧ IsSet w' b (p.d.who s) ∧ Below w.heap.size w w' := by
  refine (subject_calls p s w hp hd hs).mono ?_
  rintro e w' ⟨v, rfl, hS, hb⟩
  rw [ht] at hS ⊢
  obtain ⟨b, rfl, hset⟩ := hS.1 rfl
  exact ⟨b, rfl, hset, hb⟩
theorem object_go (p : Pol) (o : ByteArray) (w : World) (hp : p.In w) (hd : p.d.Ok) (ho : okS o) (hin : o ∈ p.d.objs) :
    Calls Try.prog 61 #[.agg p.cells, .string o] w fun e w' => ∃ b, e = .returned (.tuple #[.agg #[.string o, .float .f64 0, .map (some b)], .bool true]) ∧ IsSet w' b (p.d.what o) ∧ Below w.heap.size w w' := by
  classical
  refine (object_calls p o w hp hd ho true (by simpa using hin)).mono ?_
  rintro e w' ⟨v, rfl, hS, hb⟩
  obtain ⟨b, rfl, hset⟩ := hS.1 rfl
  exact ⟨b, rfl, hset, hb⟩
open Classical in
theorem allowB_at {d : PolD} {s o a : ByteArray} {tr : Nat} (h1 : d.trust s = some tr) (h2 : o ∈ d.objs) (h3 : a ∈ d.acts) : d.allowB ⟨s, o, a⟩ = allowsF (d.rules.filter fun r => speaksB r (d.who s) (d.what o) tr) d.exc ⟨s, o, a⟩ := by
  unfold PolD.allowB PolD.speak
  simp only [h1, decide_eq_true h2, decide_eq_true h3, Option.isSome_some, Bool.true_and, Option.getD_some]
theorem z28v (w : World) : (zeroValue 28).run Try.prog w = .ok (.agg #[.string ⟨#[]⟩, .string ⟨#[]⟩, .string ⟨#[]⟩]) w := by kernel_rfl
theorem info28 : (Try.prog.info? 28).map (fun i => (i.zero, i.size, i.bytes)) = some (some (.agg #[.string ⟨#[]⟩, .string ⟨#[]⟩, .string ⟨#[]⟩]), 3, 48) := by kernel_rfl
theorem own_stays {α : Type} {d : Kd α} {e : Nat} {W W1 : World} {base : Nat} {ok : Nat → Prop} {v : Value} {xs : List α} (h : d.R e W base ok v xs) (hg : W.grownBy W1 v.ownBlock) {g t : Nat} {cs : Array Value} (hS : Stays W g cs t) (hne : e ≠ t) : Stays W1 g cs t := by
  obtain ⟨_, inner, hown, _⟩ := h
  exact (hg.block _ (Array.getElem?_eq_some_iff.1 hS).1 (own_ne hown hS hne)).trans hS
theorem own_other_row {α β : Type} {d : Kd α} {e e2 size base2 : Nat} {Rr : β → List Value → Prop} {W W1 : World} {base : Nat} {ok : Nat → Prop} {v v2 : Value} {xs : List α} {ys : List β} (h : d.R e W base ok v xs) (hg : W.grownBy W1 v.ownBlock) (h2 : OwnRow Rr e2 size W base2 v2 ys) (hne : e2 ≠ e) : OwnRow Rr e2 size W1 base2 v2 ys := by
  obtain ⟨_, inner, hown, _⟩ := h
  refine h2.other hg ?_
  cases hb : v2.ownBlock with
  | none => exact .inl rfl
  | some k =>
    refine .inr fun e => ?_
    obtain ⟨inner2, hown2, _⟩ := h2
    obtain ⟨c1, hc1⟩ := own_typed hown2 k hb
    obtain ⟨c2, hc2⟩ := own_typed hown k e.symm
    rw [hc1] at hc2
    have := Option.some.inj hc2
    simp only [Obj.cells.injEq] at this
    exact hne this.2.1
theorem take_mem {α : Type} {l : List α} {k : Nat} {x : α} (h : x ∈ l.take k) : x ∈ l := List.mem_of_mem_take h

set_option maxHeartbeats 2000000 in
set_option maxRecDepth 100000 in
theorem Relation_calls (p : Pol) (w : World) (hp : p.In w) (hd : p.d.Ok) (hs : p.d.subs.length ≤ 64) (ho : p.d.objs.length ≤ 64) (ha : p.d.acts.length ≤ 16) :
    Calls Try.prog 59 #[.agg p.cells] w fun e w' => ∃ v, e = .returned v ∧ ∃ L : List S28, Kd.R k28 28 w' w.heap.size (fun _ => True) v L ∧ (∀ t, t ∈ L ↔ ((∃ y ∈ p.d.subs, y.f0 = t.f0) ∧ p.d.allowB t = true)) ∧ L.length ≤ 65536 ∧ Below w.heap.size w w' := by
  obtain ⟨d, A0, c0, A1, c1, A2, c2, A3, c3, A4, c4, A5, c5, A6, c6, A7, c7, A8, c8, A9, c9, A10, c10⟩ := p
  have HP := Aside0.mk hp
  have HD := Aside0.mk hd
  have HS := Aside0.mk hs
  have HO := Aside0.mk ho
  have HA := Aside0.mk ha
  have hmax : d.subs.length ≤ 64 := hs
  clear hp hd hs ho ha
  have hst0 : Stays (w.alloc (.cells (Pol.cells (Pol.mk d A0 c0 A1 c1 A2 c2 A3 c3 A4 c4 A5 c5 A6 c6 A7 c7 A8 c8 A9 c9 A10 c10)) 39)) w.heap.size (Pol.cells (Pol.mk d A0 c0 A1 c1 A2 c2 A3 c3 A4 c4 A5 c5 A6 c6 A7 c7 A8 c8 A9 c9 A10 c10)) 39 := heap_alloc_new w _
  have HST := Aside0.mk hst0
  have e1 := hst0.cell 1
  simp only [Pol.cells, List.getElem?_toArray, List.getElem?_cons_zero, List.getElem?_cons_succ] at e1
  clear hst0
  unfold Pol.cells
  unfold Pol.cells at HST
  simp only [] at HST e1 ⊢
  go_enter Try.func59, Try.ntmps59
  have hz := z54
  go_wp2
  clear e1
  go_loopw [3, 26] (fun u3 u26 wr => ∃ (k : Nat) (ps : List SD), k ≤ d.subs.length ∧ u26 = .int .i64 k ∧ Aside0 (Sides w wr u3 ps (fun s _ => d.who s) (fun s tr => d.trust s = some tr)) ∧ Aside0 (Stays wr w.heap.size (Pol.cells (Pol.mk d A0 c0 A1 c1 A2 c2 A3 c3 A4 c4 A5 c5 A6 c6 A7 c7 A8 c8 A9 c9 A10 c10)) 39) ∧ Aside0 (∀ s, s ∈ ps.map (·.1) ↔ ∃ y ∈ d.subs.take k, y.f0 = s) ∧ Aside0 (ps.length ≤ k)) (fun _ u26 _ => d.subs.length - (intOf u26).toNat)
  case atStart => exact ⟨0, [], Nat.zero_le _, rfl, ⟨⟨OwnRow.none_ _ _ _ _ _, by simp, by simp, below_alloc (Below.refl _ _) _⟩⟩, HST, ⟨by simp⟩, ⟨Nat.le_refl _⟩⟩
  case round =>
    obtain ⟨k, ps, hk, rfl, HR, HB, HM, HL⟩ := hrel
    have hpin := HP.out.below HR.out.below
    by_cases hlt : k < d.subs.length
    · obtain ⟨ad, e0, hx0, hx1⟩ := at_T54 hpin.h1 (k : Int) (by omega) (by simp only []; omega)
      have hget : rd_T54 d.subs (k : Int) = d.subs[k] := by simp [rd_T54, hlt]
      simp only [hget, Int.toNat_natCast] at hx0 hx1
      have e0 : A1 = some ad := e0
      subst e0
      have htk : d.subs.take (k + 1) = d.subs.take k ++ [d.subs[k]] := List.take_succ_eq_append_getElem hlt
      have hin : d.subs[k] ∈ d.subs := List.getElem_mem hlt
      have hat : ∀ j (h : j < d.subs.length), j ≤ k → d.subs[j].f0 = d.subs[k].f0 → j ≠ k → ∃ y ∈ d.subs.take k, y.f0 = d.subs[k].f0 := fun j h hjk he hne => ⟨d.subs[j], by
        have hj : j < (d.subs.take k).length := by rw [List.length_take]; omega
        have e : (d.subs.take k)[j] = d.subs[j] := List.getElem_take
        rw [← e]
        exact List.getElem_mem hj, he⟩
      have hik : ∃ h : k < d.subs.length, d.subs[k].f0 = d.subs[k].f0 := ⟨hlt, rfl⟩
      obtain ⟨x, hxx⟩ : ∃ x, x = d.subs[k] := ⟨_, rfl⟩
      have HXX := Aside0.mk hxx
      rw [← hxx] at hx0 hx1 htk hin hat
      have HTK := Aside0.mk htk
      have HIN := Aside0.mk hin
      have HAT := Aside0.mk hat
      have HPI := Aside0.mk hpin
      have c0' : (k : Int) < d.subs.length := by omega
      have e1 := HB.out.cell 1
      simp only [Pol.cells, List.getElem?_toArray, List.getElem?_cons_zero, List.getElem?_cons_succ] at e1
      have hcw : ∀ (j : Nat) (v : Value), ([.string x.f0, .float .f64 x.f1] : List Value)[j]? = some v → wr.cell? ((ad.add (k * 2)).add j) = some v := by
        intro j v hj
        have hj2 : j < 2 := (List.getElem?_eq_some_iff.1 hj).1
        have : j = 0 ∨ j = 1 := by omega
        rcases this with rfl | rfl
        · obtain rfl : Value.string x.f0 = v := by simpa using hj
          rw [Addr.add_zero']; exact hx0
        · obtain rfl : Value.float .f64 x.f1 = v := by simpa using hj
          rw [add_add, add_field _ _ 1 (by omega)]; exact hx1
      have HCW := Aside0.mk hcw
      clear hx0 hx1 hget htk hin hat hxx hcw hpin hik
      go_upto_region 5 with (first | ((with_reducible refine gate_dst (N := 30) rfl ?_); refine wpList_load_at rfl 54 (.tmp 29) rfl (ad.add (k * 2)) ?hx [.string x.f0, .float .f64 x.f1] HCW.out _ Try.underlying54 rfl i54 ?_; (case hx => rfl)) | ((with_reducible refine gate_store (t := 54) (p := 6) (v := .tmp 30) rfl ?_); refine wpList_store_var rfl 54 (.tmp 6) (.tmp 30) rfl wr.heap.size #[.string x.f0, .float .f64 x.f1] ?hx ?hy (cs := #[.string ⟨#[]⟩, .float .f64 0]) (t := 54) (heap_alloc_new wr _) rfl i54 (by simp [Value.oneCell']) ?_; (case hx => rfl); (case hy => rfl)))
      (try simp only [Act.put])
      have hb2 : Below wr.heap.size wr ((wr.alloc (.cells #[.string ⟨#[]⟩, .float .f64 0] 54)).setCells wr.heap.size 0 [.string x.f0, .float .f64 x.f1]) := setCells_below (below_alloc (Below.refl _ _) _) (Nat.le_refl _) _
      have hS2 : Stays ((wr.alloc (.cells #[.string ⟨#[]⟩, .float .f64 0] 54)).setCells wr.heap.size 0 [.string x.f0, .float .f64 x.f1]) wr.heap.size #[.string x.f0, .float .f64 x.f1] 54 := setCells_var (vs := #[.string x.f0, .float .f64 x.f1]) (heap_alloc_new wr _) rfl
      have hR2 := HR.out.move hb2
      have hB2 := HB.out.below hb2
      have hP2 := HPI.out.below hb2
      obtain ⟨W2, hW2⟩ : ∃ W2, W2 = ((wr.alloc (.cells #[.string ⟨#[]⟩, .float .f64 0] 54)).setCells wr.heap.size 0 [.string x.f0, .float .f64 x.f1]) := ⟨_, rfl⟩
      obtain ⟨g6, hg6⟩ : ∃ g6, g6 = wr.heap.size := ⟨_, rfl⟩
      rw [← hW2] at hS2 hR2 hB2 hP2 ⊢
      rw [← hg6] at hS2 ⊢
      have e1 := hB2.cell 1
      simp only [Pol.cells, List.getElem?_toArray, List.getElem?_cons_zero, List.getElem?_cons_succ] at e1
      have hg : W2.cell? ⟨g6, 0, none⟩ = some (.string x.f0) := hS2.cell 0
      have HG := Aside0.mk hg
      have HS2 := Aside0.mk hS2
      have HR2 := Aside0.mk hR2
      have HB2 := Aside0.mk hB2
      have HP2 := Aside0.mk hP2
      clear hb2 hS2 hR2 hB2 hP2 hW2 hg6 hg
      go_upto_if 36 with (first | (go_at_call 72; (with_reducible refine (index_calls (some ad) c1 d.subs g6 x.f0 _ HP2.out.h1 HG.out k hlt (congrArg S54.f0 HXX.out).symm).mono ?_); rintro e w3 ⟨j, rfl, hjk, hjs, hjn, hb3⟩; have HJS := Aside0.mk hjs; have HJN := Aside0.mk hjn; have HS3 := Aside0.mk (HS2.out.below hb3); have HR3 := Aside0.mk (HR2.out.move hb3); have HB3 := Aside0.mk (HB2.out.below hb3); have HP3 := Aside0.mk (HP2.out.below hb3); clear hjs hjn hb3))
      have e1 := HB3.out.cell 1
      simp only [Pol.cells, List.getElem?_toArray, List.getElem?_cons_zero, List.getElem?_cons_succ] at e1
      by_cases hje : j = k
      · have hq : ((j : Int) == (k : Int)) = true := by rw [hje]; exact beq_self_eq_true _
        obtain ⟨tr, htr⟩ := trust_some (d := d) (s := x.f0) ⟨x, HIN.out, rfl⟩
        have HTR := Aside0.mk htr
        have hlim : (ps.length + 1) * 32 ≤ 140737488355328 := by have := HL.out; omega
        have HLIM := Aside0.mk hlim
        have x0 : w3.cell? ⟨g6, 0, none⟩ = some (.string x.f0) := HS3.out.cell 0
        have hxok := HD.out.subs x HIN.out
        have HXOK := Aside0.mk hxok
        clear htr hlim hje hxok
        go_upto_region 7 with (first | ((with_reducible refine gate_dst (N := 38) rfl ?_); refine wpList_load_blk rfl 39 (.tmp 1) rfl w.heap.size ?hx #[.slice A0 d.acts.length c0, .slice (some ad) d.subs.length c1, .slice A2 d.roles.length c2, .slice A3 d.objs.length c3, .slice A4 d.grps.length c4, .slice A5 d.mem.length c5, .slice A6 d.inh.length c6, .slice A7 d.par.length c7, .slice A8 d.wit.length c8, .slice A9 d.rules.length c9, .slice A10 d.exc.length c10] 39 HB3.out _ Try.underlying39 rfl i39 ?_; (case hx => rfl)) | (go_at_call 60; (refine (subject_go _ x.f0 _ HP3.out HD.out HXOK.out tr HTR.out).mono ?_); rintro e w4 ⟨b, rfl, hset, hb4⟩; have HR4 := Aside0.mk (HR3.out.move hb4); have HB4 := Aside0.mk (HB3.out.below hb4); have HSET := Aside0.mk hset; clear hset hb4) | ((with_reducible refine gate_dst (N := 7) rfl ?_); refine wpList_alloc_store rfl rfl 95 7 (.tmp 42) rfl rfl rfl noneV #[.string x.f0, .float .f64 tr, .map (some b)] _ (z95 _) rfl i95 rfl (by simp [Value.oneCell']) ?hy ?hp ?_; (case hy => rfl); (case hp => rfl)))
        (try simp only [Act.put])
        have hb5 := below_alloc (Below.refl _ w4) (.cells #[.string x.f0, .float .f64 tr, .map (some b)] 95)
        have hS5 : Stays (w4.alloc (.cells #[.string x.f0, .float .f64 tr, .map (some b)] 95)) w4.heap.size #[.string x.f0, .float .f64 tr, .map (some b)] 95 := heap_alloc_new w4 _
        have hR5 := HR4.out.move hb5
        have hB5 := HB4.out.below hb5
        have hT5 := HSET.out.below hb5
        obtain ⟨W5, hW5⟩ : ∃ W5, W5 = w4.alloc (.cells #[.string x.f0, .float .f64 tr, .map (some b)] 95) := ⟨_, rfl⟩
        obtain ⟨g7, hg7⟩ : ∃ g7, g7 = w4.heap.size := ⟨_, rfl⟩
        rw [← hW5] at hR5 hB5 hT5 hS5 ⊢
        rw [← hg7] at hS5 ⊢
        have HR5 := Aside0.mk hR5
        have HB5 := Aside0.mk hB5
        have HSET5 := Aside0.mk hT5
        have HS5 := Aside0.mk hS5
        clear hb5 hS5 hR5 hB5 hT5 hW5 hg7
        go_wp2_with (first | ((with_reducible refine gate_dst (N := 45) rfl ?_); refine wpList_load_blk rfl 95 (.tmp 7) rfl g7 ?hx #[.string x.f0, .float .f64 tr, .map (some b)] 95 HS5.out _ Try.underlying95 rfl i95 ?_; (case hx => rfl)) | ((with_reducible refine gate_builtin (b := .append) (xs := #[.tmp 44, .tmp 46]) rfl ?_); at_builtin; refine OwnRow.append (w0 := w) (R := RS) w.heap.size rfl (.tmp 44) (.tmp 46) 111 95 (.agg #[.string ⟨#[]⟩, .float .f64 0, .map none]) 3 32 rfl Try.underlying111 info95 rfl (by decide) (by decide) u3 ps (x.f0, tr, b) [.string x.f0, .float .f64 tr, .map (some b)] rfl rfl (RS_mk _ _ _) rfl (by simp [Value.oneCell']) HR5.out.row HR5.out.below HR5.out.below.size HLIM.out ?_; intro v8 w8 hR8 hB8 hg8 hat8; have HR8 := Aside0.mk (HR5.out.put (x := (x.f0, tr, b)) HSET5.out HTR.out hR8 hg8 hB8); have HB8 := Aside0.mk (show Stays w8 w.heap.size _ 39 from (hg8.block _ (Array.getElem?_eq_some_iff.1 HB5.out).1 (HR5.out.row.ne_block HB5.out (by decide))).trans HB5.out); clear hR8 hB8 hg8 hat8))
        go_roundw
        case rel => exact ⟨k + 1, _, by omega, by go_num, HR8, HB8, ⟨fun s => by rw [List.map_append, List.mem_append, HM.out s, HTK.out]; simp [or_and_right, exists_or, eq_comm]⟩, ⟨by rw [List.length_append]; have := HL.out; simp; omega⟩⟩
        case measure => simp [intOf]; omega
      · have hq : ((j : Int) == (k : Int)) = false := by
          rw [beq_eq_false_iff_ne]; omega
        obtain ⟨hjl, hjx⟩ := HJS.out
        have hall := HAT.out j hjl hjk hjx hje
        have HALL := Aside0.mk hall
        clear hje hall hjx hjl
        go_wp2
        go_roundw
        case rel => exact ⟨k + 1, ps, by omega, by go_num, HR3, HB3, ⟨fun s => by
          rw [HM.out s, HTK.out]
          constructor
          · rintro ⟨y, hy, rfl⟩; exact ⟨y, List.mem_append_left _ hy, rfl⟩
          · rintro ⟨y, hy, rfl⟩
            rcases List.mem_append.1 hy with hy | hy
            · exact ⟨y, hy, rfl⟩
            · rw [List.mem_singleton.1 hy]; exact HALL.out⟩, ⟨Nat.le_succ_of_le HL.out⟩⟩
        case measure => simp [intOf]; omega
    · have hkk : k = d.subs.length := by omega
      subst hkk
      have hM := HM.out
      rw [List.take_length] at hM
      have HM1 := Aside0.mk hM
      obtain ⟨w1, hw1⟩ : ∃ w1, w1 = wr := ⟨_, rfl⟩
      subst hw1
      have HP1 := Aside0.mk hpin
      have e3 := HB.out.cell 3
      simp only [Pol.cells, List.getElem?_toArray, List.getElem?_cons_zero, List.getElem?_cons_succ] at e3
      clear hM hpin HM
      have holen : d.objs.length ≤ 8796093022207 := Nat.le_trans HO.out (by decide)
      go_upto_region 10 with (first | (go_at_call 74; (with_reducible refine (once_go A3 c3 d.objs _ HP1.out.h3 HP1.out.l3 holen).mono ?_); rintro e w2 ⟨v51, rfl, hR51, hb2⟩; obtain ⟨A51, c51, rfl, hl51, hC51⟩ := Kd.R_reads hR51; have HC51 := Aside0.mk hC51; have HR2 := Aside0.mk (HR.out.move hb2); have HB2 := Aside0.mk (HB.out.below hb2); have HP2 := Aside0.mk (HP1.out.below hb2); clear hR51 hC51 hb2))
      obtain ⟨LO, hLO⟩ : ∃ LO, LO = MPut.putAll [] d.objs := ⟨_, rfl⟩
      have hLOm : ∀ o, o ∈ LO ↔ o ∈ d.objs := fun o => by rw [hLO, MPut.mem_putAll]; simp
      have hLOs : LO.length ≤ 64 := by rw [hLO]; exact Nat.le_trans (putAll_short [] d.objs) (by simpa using HO.out)
      rw [← hLO] at HC51 hl51 ⊢
      have HLOM := Aside0.mk hLOm
      clear hLO hLOm hl51
      go_loopw [4, 53] (fun u4 u53 wr => ∃ (k2 : Nat) (ps2 : List SD), k2 ≤ LO.length ∧ u53 = .int .i64 k2 ∧ Aside0 (Sides w2 wr u4 ps2 (fun o _ => d.what o) (fun o tr => tr = 0 ∧ o ∈ d.objs)) ∧ Aside0 (ps2.map (·.1) = LO.take k2)) (fun _ u53 _ => LO.length - (intOf u53).toNat)
      case atStart => exact ⟨0, [], Nat.zero_le _, rfl, ⟨⟨OwnRow.none_ _ _ _ _ _, by simp, by simp, Below.refl _ _⟩⟩, ⟨by simp⟩⟩
      case round =>
        obtain ⟨k2, ps2, hk2, rfl, HW, HN2⟩ := hrel
        by_cases hlt2 : k2 < LO.length
        · obtain ⟨ad, e0, hx⟩ := Kd.at_string HC51.out (k2 : Int) (by omega) (by omega)
          subst e0
          have hget : rdOf ByteArray.empty LO (k2 : Int) = LO[k2] := by simp [rdOf, hlt2]
          simp only [hget, Int.toNat_natCast] at hx
          have htk : LO.take (k2 + 1) = LO.take k2 ++ [LO[k2]] := List.take_succ_eq_append_getElem hlt2
          have hmem : LO[k2] ∈ d.objs := (HLOM.out _).1 (List.getElem_mem hlt2)
          obtain ⟨x, hxx⟩ : ∃ x, x = LO[k2] := ⟨_, rfl⟩
          rw [← hxx] at hx htk hmem
          replace hx := pw_cell_below HW.out.below hx
          have hlen2 : ps2.length ≤ 64 := by
            have := congrArg List.length HN2.out
            rw [List.length_map, List.length_take] at this
            omega
          have HLIM := Aside0.mk (show (ps2.length + 1) * 32 ≤ 140737488355328 by omega)
          have HTK := Aside0.mk htk
          have HMEM := Aside0.mk hmem
          have HXOK := Aside0.mk (HD.out.objs x hmem)
          have HB4 := Aside0.mk (HB2.out.below HW.out.below)
          have HP4 := Aside0.mk (HP2.out.below HW.out.below)
          have c0' : (k2 : Int) < LO.length := by omega
          clear hget htk hmem hxx hlen2
          go_upto_region 13 with (first | ((with_reducible refine gate_dst (N := 58) rfl ?_); refine wpList_load_blk rfl 39 (.tmp 1) rfl w.heap.size ?hx #[.slice A0 d.acts.length c0, .slice A1 d.subs.length c1, .slice A2 d.roles.length c2, .slice A3 d.objs.length c3, .slice A4 d.grps.length c4, .slice A5 d.mem.length c5, .slice A6 d.inh.length c6, .slice A7 d.par.length c7, .slice A8 d.wit.length c8, .slice A9 d.rules.length c9, .slice A10 d.exc.length c10] 39 HB4.out _ Try.underlying39 rfl i39 ?_; (case hx => rfl)) | (go_at_call 61; (refine (object_go _ x _ HP4.out HD.out HXOK.out HMEM.out).mono ?_); rintro e w5 ⟨b, rfl, hset, hb5⟩; have HW5 := Aside0.mk (HW.out.move hb5); have HSET := Aside0.mk hset; clear hset hb5) | ((with_reducible refine gate_dst (N := 11) rfl ?_); refine wpList_alloc_store rfl rfl 95 11 (.tmp 61) rfl rfl rfl noneV #[.string x, .float .f64 0, .map (some b)] _ (z95 _) rfl i95 rfl (by simp [Value.oneCell']) ?hy ?hp ?_; (case hy => rfl); (case hp => rfl)))
          (try simp only [Act.put])
          have hb6 := below_alloc (Below.refl _ w5) (.cells #[.string x, .float .f64 0, .map (some b)] 95)
          have hS6 : Stays (w5.alloc (.cells #[.string x, .float .f64 0, .map (some b)] 95)) w5.heap.size #[.string x, .float .f64 0, .map (some b)] 95 := heap_alloc_new w5 _
          have hW6 := HW5.out.move hb6
          have hT6 := HSET.out.below hb6
          obtain ⟨W6, hW6e⟩ : ∃ W6, W6 = w5.alloc (.cells #[.string x, .float .f64 0, .map (some b)] 95) := ⟨_, rfl⟩
          obtain ⟨g11, hg11⟩ : ∃ g11, g11 = w5.heap.size := ⟨_, rfl⟩
          rw [← hW6e] at hS6 hW6 hT6 ⊢
          rw [← hg11] at hS6 ⊢
          have HS6 := Aside0.mk hS6
          have HW6 := Aside0.mk hW6
          have HT6 := Aside0.mk hT6
          clear hb6 hS6 hW6 hT6 hW6e hg11
          go_wp2_with (first | ((with_reducible refine gate_dst (N := 64) rfl ?_); refine wpList_load_blk rfl 95 (.tmp 11) rfl g11 ?hx #[.string x, .float .f64 0, .map (some b)] 95 HS6.out _ Try.underlying95 rfl i95 ?_; (case hx => rfl)) | ((with_reducible refine gate_builtin (b := .append) (xs := #[.tmp 63, .tmp 65]) rfl ?_); at_builtin; refine OwnRow.append (w0 := w2) (R := RS) w2.heap.size rfl (.tmp 63) (.tmp 65) 111 95 (.agg #[.string ⟨#[]⟩, .float .f64 0, .map none]) 3 32 rfl Try.underlying111 info95 rfl (by decide) (by decide) u4 ps2 (x, 0, b) [.string x, .float .f64 0, .map (some b)] rfl rfl (RS_mk _ _ _) rfl (by simp [Value.oneCell']) HW6.out.row HW6.out.below HW6.out.below.size HLIM.out ?_; intro v8 w8 hR8 hB8 hg8 hat8; have HW8 := Aside0.mk (HW6.out.put (x := (x, 0, b)) HT6.out ⟨rfl, HMEM.out⟩ hR8 hg8 hB8); clear hR8 hB8 hg8 hat8))
          go_roundw
          case rel => exact ⟨k2 + 1, _, by omega, by go_num, HW8, ⟨by rw [List.map_append, HN2.out, HTK.out]; rfl⟩⟩
          case measure => simp [intOf]; omega
        · have hkk2 : k2 = LO.length := by omega
          subst hkk2
          have hN2 := HN2.out
          rw [List.take_length] at hN2
          have HNW := Aside0.mk hN2
          obtain ⟨w3, hw3⟩ : ∃ w3, w3 = wr := ⟨_, rfl⟩
          subst hw3
          have HP3 := Aside0.mk (HP2.out.below HW.out.below)
          have HR3 := Aside0.mk (HR2.out.move HW.out.below)
          have HB3 := Aside0.mk (HB2.out.below HW.out.below)
          have e0 := HB3.out.cell 0
          simp only [Pol.cells, List.getElem?_toArray, List.getElem?_cons_zero] at e0
          clear hN2 HN2
          have halen : d.acts.length ≤ 8796093022207 := Nat.le_trans HA.out (by decide)
          go_upto_region 16 with (first | (go_at_call 74; (with_reducible refine (once_go A0 c0 d.acts _ HP3.out.h0 HP3.out.l0 halen).mono ?_); rintro e w4 ⟨v70, rfl, hR70, hb4⟩; obtain ⟨A70, c70, rfl, hl70, hC70⟩ := Kd.R_reads hR70; have HC70 := Aside0.mk hC70; have HW4 := Aside0.mk (HW.out.move hb4); have HR4 := Aside0.mk (HR3.out.move hb4); have HB4 := Aside0.mk (HB3.out.below hb4); have HP4 := Aside0.mk (HP3.out.below hb4); clear hR70 hC70 hb4))
          obtain ⟨LA, hLA⟩ : ∃ LA, LA = MPut.putAll [] d.acts := ⟨_, rfl⟩
          have hLAm : ∀ o, o ∈ LA ↔ o ∈ d.acts := fun o => by rw [hLA, MPut.mem_putAll]; simp
          have hLAs : LA.length ≤ 16 := by rw [hLA]; exact Nat.le_trans (putAll_short [] d.acts) (by simpa using HA.out)
          rw [← hLA] at HC70 hl70 ⊢
          have HLAM := Aside0.mk hLAm
          clear hLA hLAm hl70 e0
          obtain ⟨Ax, cx, e3x, hlx, hRx⟩ := HR4.out.row.reads
          obtain ⟨Ay, cy, e4y, hly, hRy⟩ := HW4.out.row.reads
          subst e3x
          subst e4y
          have hps : ps.length ≤ 64 := Nat.le_trans HL.out HS.out
          have hps2 : ps2.length ≤ 64 := by
            have := congrArg List.length HNW.out
            rw [List.length_map] at this
            omega
          have HRX := Aside0.mk hRx
          have HRY := Aside0.mk hRy
          clear hlx hly hRx hRy
          go_wp2
          have hRSget : ∀ {A : Option Addr} {qs : List SD} {W : World} (h : ReadsRow RS 3 W A qs.length qs) (n : Nat) (hn : n < qs.length), ∃ ad, A = some ad ∧ ∀ j v, ([.string qs[n].1, .float .f64 qs[n].2.1, .map (some qs[n].2.2)] : List Value)[j]? = some v → W.cell? ((ad.add (n * 3)).add j) = some v := by
            intro A qs W h n hn
            obtain ⟨ad, cs, e, _, hR, hc⟩ := h.get_ (⟨#[]⟩, 0, 0) (n : Int) (by omega) (by omega)
            have hR : RS qs[n] cs := by
              have : qs.getD (n : Int).toNat (⟨#[]⟩, 0, 0) = qs[n] := by simp [hn]
              rw [← this]; exact hR
            refine ⟨ad, e, fun j v hv => ?_⟩
            rw [add_add]
            exact hc j v (by rw [hR]; exact hv)
          have HGET := Aside0.mk @hRSget
          clear hRSget
          go_loopw [14, 73] (fun u14 u73 wr => ∃ (i : Nat) (L : List S28), i ≤ ps.length ∧ u73 = .int .i64 i ∧ Aside0 (Kd.R k28 28 wr w4.heap.size (fun _ => True) u14 L) ∧ Aside0 (Below w4.heap.size w4 wr) ∧ Aside0 (∀ t, t ∈ L ↔ Got d (ps.map (·.1)) LO LA i 0 0 t) ∧ Aside0 (L.length ≤ i * 1024)) (fun _ u73 _ => ps.length - (intOf u73).toNat)
          case atStart => exact ⟨0, [], Nat.zero_le _, rfl, ⟨Kd.R_nil _ _ _ _ _⟩, ⟨Below.refl _ _⟩, ⟨fun t => by simp [Got.start]⟩, ⟨by simp⟩⟩
          case round =>
            obtain ⟨i, L, hi, rfl, HL3, HB5, HG, HN3⟩ := hrel
            by_cases hlt3 : i < ps.length
            · obtain ⟨adx, ex, hcx⟩ := HGET.out HRX.out i hlt3
              subst ex
              have hxin := List.getElem_mem hlt3
              have hxset := HR4.out.sets _ hxin
              have hxtr := HR4.out.trust _ hxin
              have hnm : (ps.map (·.1))[i]? = some ps[i].1 := by simp [hlt3]
              obtain ⟨xs, hxs⟩ : ∃ xs, xs = ps[i] := ⟨_, rfl⟩
              rw [← hxs] at hcx hxset hxtr hnm
              have hcx' : ∀ j v, ([.string xs.1, .float .f64 xs.2.1, .map (some xs.2.2)] : List Value)[j]? = some v → wr.cell? ((adx.add (i * 3)).add j) = some v := fun j v hv => pw_cell_below HB5.out (hcx j v hv)
              have HCX := Aside0.mk hcx'
              have HXSET := Aside0.mk hxset
              have HXTR := Aside0.mk hxtr
              have HNM := Aside0.mk hnm
              have c03 : (i : Int) < ps.length := by omega
              clear hcx hcx' hxset hxtr hnm hxin hxs
              go_upto_region 20 with (first | ((with_reducible refine gate_dst (N := 76) rfl ?_); refine wpList_load_at rfl 95 (.tmp 75) rfl (adx.add (i * 3)) ?hx [.string xs.1, .float .f64 xs.2.1, .map (some xs.2.2)] HCX.out _ Try.underlying95 rfl i95 ?_; (case hx => rfl); refine wpList_alloc_store rfl rfl 95 16 (.tmp 76) rfl rfl rfl noneV #[.string xs.1, .float .f64 xs.2.1, .map (some xs.2.2)] _ (z95 _) rfl i95 rfl (by simp [Value.oneCell']) ?hy ?hp ?_; (case hy => rfl); (case hp => rfl)))
              (try simp only [Act.put])
              have hbS := below_alloc (Below.refl _ wr) (.cells #[.string xs.1, .float .f64 xs.2.1, .map (some xs.2.2)] 95)
              have hsS : Stays (wr.alloc (.cells #[.string xs.1, .float .f64 xs.2.1, .map (some xs.2.2)] 95)) wr.heap.size #[.string xs.1, .float .f64 xs.2.1, .map (some xs.2.2)] 95 := heap_alloc_new wr _
              have hL6 := Kd.R_below HL3.out hbS
              have hB6 := below_then HB5.out HB5.out.size hbS
              obtain ⟨W6, hW6e⟩ : ∃ W6, W6 = wr.alloc (.cells #[.string xs.1, .float .f64 xs.2.1, .map (some xs.2.2)] 95) := ⟨_, rfl⟩
              obtain ⟨g16, hg16⟩ : ∃ g16, g16 = wr.heap.size := ⟨_, rfl⟩
              rw [← hW6e] at hsS hL6 hB6 ⊢
              rw [← hg16] at hsS ⊢
              have HSX := Aside0.mk hsS
              have HL6 := Aside0.mk hL6
              have HB6 := Aside0.mk hB6
              clear hbS hsS hL6 hB6 hW6e hg16
              go_wp2
              go_loopw [14, 79] (fun u14 u79 wr => ∃ (j : Nat) (L : List S28), j ≤ ps2.length ∧ u79 = .int .i64 j ∧ Aside0 (Kd.R k28 28 wr w4.heap.size (fun _ => True) u14 L) ∧ Aside0 (Below w4.heap.size w4 wr) ∧ Aside0 (Stays wr g16 #[.string xs.1, .float .f64 xs.2.1, .map (some xs.2.2)] 95) ∧ Aside0 (∀ t, t ∈ L ↔ Got d (ps.map (·.1)) LO LA i j 0 t) ∧ Aside0 (L.length ≤ i * 1024 + j * 16)) (fun _ u79 _ => ps2.length - (intOf u79).toNat)
              case atStart => exact ⟨0, L, Nat.zero_le _, rfl, HL6, HB6, HSX, HG, ⟨by have := HN3.out; omega⟩⟩
              case round =>
                obtain ⟨j, L2, hj, rfl, HL7, HB7, HSX7, HG7, HN7⟩ := hrel
                by_cases hlt4 : j < ps2.length
                · obtain ⟨ady, ey, hcy⟩ := HGET.out HRY.out j hlt4
                  subst ey
                  have hyin := List.getElem_mem hlt4
                  have hyset := HW4.out.sets _ hyin
                  have hytr := HW4.out.trust _ hyin
                  have hon : LO[j]? = some ps2[j].1 := by rw [← HNW.out]; simp [hlt4]
                  obtain ⟨ys, hys⟩ : ∃ ys, ys = ps2[j] := ⟨_, rfl⟩
                  rw [← hys] at hcy hyset hytr hon
                  have hcy' : ∀ j v, ([.string ys.1, .float .f64 ys.2.1, .map (some ys.2.2)] : List Value)[j]? = some v → wr.cell? ((ady.add (j * 1)).add 0) = wr.cell? ((ady.add (j * 1)).add 0) := fun _ _ _ => rfl
                  clear hcy'
                  have HCY := Aside0.mk (fun q v (hv : ([.string ys.1, .float .f64 ys.2.1, .map (some ys.2.2)] : List Value)[q]? = some v) => (pw_cell_below HB7.out (hcy q v hv) : wr.cell? ((ady.add (j * 3)).add q) = some v))
                  have HYSET := Aside0.mk hyset
                  have HYTR := Aside0.mk hytr
                  have HON := Aside0.mk hon
                  have c04 : (j : Int) < ps2.length := by omega
                  clear hcy hyset hytr hon hyin hys
                  go_upto_region 23 with (first | ((with_reducible refine gate_dst (N := 82) rfl ?_); refine wpList_load_at rfl 95 (.tmp 81) rfl (ady.add (j * 3)) ?hx [.string ys.1, .float .f64 ys.2.1, .map (some ys.2.2)] HCY.out _ Try.underlying95 rfl i95 ?_; (case hx => rfl); refine wpList_alloc_store rfl rfl 95 18 (.tmp 82) rfl rfl rfl noneV #[.string ys.1, .float .f64 ys.2.1, .map (some ys.2.2)] _ (z95 _) rfl i95 rfl (by simp [Value.oneCell']) ?hy ?hp ?_; (case hy => rfl); (case hp => rfl)))
                  (try simp only [Act.put])
                  have hbS := below_alloc (Below.refl _ wr) (.cells #[.string ys.1, .float .f64 ys.2.1, .map (some ys.2.2)] 95)
                  have hsS : Stays (wr.alloc (.cells #[.string ys.1, .float .f64 ys.2.1, .map (some ys.2.2)] 95)) wr.heap.size #[.string ys.1, .float .f64 ys.2.1, .map (some ys.2.2)] 95 := heap_alloc_new wr _
                  have hL8 := Kd.R_below HL7.out hbS
                  have hB8 := below_then HB7.out HB7.out.size hbS
                  have hS8 := HSX7.out.below hbS
                  obtain ⟨W8, hW8e⟩ : ∃ W8, W8 = wr.alloc (.cells #[.string ys.1, .float .f64 ys.2.1, .map (some ys.2.2)] 95) := ⟨_, rfl⟩
                  obtain ⟨g18, hg18⟩ : ∃ g18, g18 = wr.heap.size := ⟨_, rfl⟩
                  rw [← hW8e] at hsS hL8 hB8 hS8 ⊢
                  rw [← hg18] at hsS ⊢
                  have HSY := Aside0.mk hsS
                  have HL8 := Aside0.mk hL8
                  have HB8 := Aside0.mk hB8
                  have HSX8 := Aside0.mk hS8
                  have HP8 := Aside0.mk (HP4.out.below hB8)
                  have HBX8 := Aside0.mk (HB4.out.below hB8)
                  have HX8 := Aside0.mk (HXSET.out.below hB8)
                  have HY8 := Aside0.mk (HYSET.out.below hB8)
                  clear hbS hsS hL8 hB8 hS8 hW8e hg18
                  go_upto_region 24 with (first | ((with_reducible refine gate_dst (N := 83) rfl ?_); refine wpList_load_blk rfl 39 (.tmp 1) rfl w.heap.size ?hx #[.slice A0 d.acts.length c0, .slice A1 d.subs.length c1, .slice A2 d.roles.length c2, .slice A3 d.objs.length c3, .slice A4 d.grps.length c4, .slice A5 d.mem.length c5, .slice A6 d.inh.length c6, .slice A7 d.par.length c7, .slice A8 d.wit.length c8, .slice A9 d.rules.length c9, .slice A10 d.exc.length c10] 39 HBX8.out _ Try.underlying39 rfl i39 ?_; (case hx => rfl)) | ((with_reducible refine gate_dst (N := 84) rfl ?_); refine wpList_load_blk rfl 95 (.tmp 16) rfl g16 ?hx #[.string xs.1, .float .f64 xs.2.1, .map (some xs.2.2)] 95 HSX8.out _ Try.underlying95 rfl i95 ?_; (case hx => rfl)) | ((with_reducible refine gate_dst (N := 85) rfl ?_); refine wpList_load_blk rfl 95 (.tmp 18) rfl g18 ?hx #[.string ys.1, .float .f64 ys.2.1, .map (some ys.2.2)] 95 HSY.out _ Try.underlying95 rfl i95 ?_; (case hx => rfl)) | (go_at_call 64; (refine (about_own _ w4 xs.1 xs.2.1 xs.2.2 _ ys.1 ys.2.1 ys.2.2 _ _ HB8.out HP4.out HD.out HX8.out HY8.out).mono ?_); rintro e w9 ⟨v19, rfl, hRu, hb9⟩; have HRU := Aside0.mk hRu; have HL9 := Aside0.mk (Kd.R_below HL8.out hb9); have HB9 := Aside0.mk (below_then HB8.out HB8.out.size hb9); have HSX9 := Aside0.mk (HSX8.out.below hb9); have HSY9 := Aside0.mk (HSY.out.below hb9); have HBX9 := Aside0.mk (HBX8.out.below hb9); clear hRu hb9))
                  obtain ⟨RU, hRUe⟩ : ∃ RU, RU = d.rules.filter fun r => speaksB r (d.who xs.1) (d.what ys.1) xs.2.1 := ⟨_, rfl⟩
                  have hRU := HRU.out
                  rw [← hRUe] at hRU
                  have HRU := Aside0.mk hRU
                  obtain ⟨Ar, cr, er, hlr, _⟩ := hRU.reads
                  subst er
                  have hal : ∀ a, a ∈ d.acts → d.allowB ⟨xs.1, ys.1, a⟩ = allowsF RU d.exc ⟨xs.1, ys.1, a⟩ := fun a ha => by
                    rw [hRUe]; exact allowB_at HXTR.out HYTR.out.2 ha
                  have HAL := Aside0.mk hal
                  clear hRU hRUe hal hlr
                  go_wp2
                  go_loopw [14, 89] (fun u14 u89 wr => ∃ (l : Nat) (L : List S28), l ≤ LA.length ∧ u89 = .int .i64 l ∧ Aside0 (Kd.R k28 28 wr w4.heap.size (fun _ => True) u14 L) ∧ Aside0 (Below w4.heap.size w4 wr) ∧ Aside0 (OwnRow (k78.K w4) 78 6 wr W8.heap.size (.slice Ar RU.length cr) RU) ∧ Aside0 (Stays wr g16 #[.string xs.1, .float .f64 xs.2.1, .map (some xs.2.2)] 95) ∧ Aside0 (Stays wr g18 #[.string ys.1, .float .f64 ys.2.1, .map (some ys.2.2)] 95) ∧ Aside0 (Stays wr w.heap.size #[.slice A0 d.acts.length c0, .slice A1 d.subs.length c1, .slice A2 d.roles.length c2, .slice A3 d.objs.length c3, .slice A4 d.grps.length c4, .slice A5 d.mem.length c5, .slice A6 d.inh.length c6, .slice A7 d.par.length c7, .slice A8 d.wit.length c8, .slice A9 d.rules.length c9, .slice A10 d.exc.length c10] 39) ∧ Aside0 (∀ t, t ∈ L ↔ Got d (ps.map (·.1)) LO LA i j l t) ∧ Aside0 (L.length ≤ i * 1024 + j * 16 + l)) (fun _ u89 _ => LA.length - (intOf u89).toNat)
                  case atStart => exact ⟨0, L2, Nat.zero_le _, rfl, HL9, HB9, HRU, HSX9, HSY9, HBX9, HG7, ⟨HN7.out⟩⟩
                  case round =>
                    obtain ⟨l, L3, hl, rfl, HL10, HB10, HR10, HX10, HY10, HBX10, HG10, HN10⟩ := hrel
                    by_cases hlt5 : l < LA.length
                    · obtain ⟨ada, ea, hxa⟩ := Kd.at_string HC70.out (l : Int) (by omega) (by omega)
                      subst ea
                      have hget : rdOf ByteArray.empty LA (l : Int) = LA[l] := by simp [rdOf, hlt5]
                      simp only [hget, Int.toNat_natCast] at hxa
                      have hain : LA[l] ∈ d.acts := (HLAM.out _).1 (List.getElem_mem hlt5)
                      have hjl : j < LO.length := by have := congrArg List.length HNW.out; rw [List.length_map] at this; omega
                      have hil : i < (ps.map (·.1)).length := by rw [List.length_map]; exact hlt3
                      have e1i : (ps.map (·.1))[i] = xs.1 := by have := HNM.out; rw [List.getElem?_eq_getElem hil] at this; exact Option.some.inj this
                      have e2j : LO[j] = ys.1 := by have := HON.out; rw [List.getElem?_eq_getElem hjl] at this; exact Option.some.inj this
                      have hnext : ∀ t, Got d (ps.map (·.1)) LO LA i j (l + 1) t ↔ (Got d (ps.map (·.1)) LO LA i j l t ∨ (t = ⟨xs.1, ys.1, LA[l]⟩ ∧ d.allowB t = true)) := fun t => by
                        have := Got.next (d := d) (t := t) hil hjl hlt5
                        rw [e1i, e2j] at this
                        exact this
                      obtain ⟨a, haa⟩ : ∃ a, a = LA[l] := ⟨_, rfl⟩
                      rw [← haa] at hxa hain hnext
                      have ya := pw_cell_below HB10.out hxa
                      have hall := HAL.out a hain
                      obtain ⟨q, hq⟩ : ∃ q, allowsF RU d.exc ⟨xs.1, ys.1, a⟩ = q := ⟨_, rfl⟩
                      rw [hq] at hall
                      have HQ := Aside0.mk hq
                      have HALL := Aside0.mk hall
                      have HNEXT := Aside0.mk hnext
                      have x16 : wr.cell? ⟨g16, 0, none⟩ = some (.string xs.1) := HX10.out.cell 0
                      have y18 : wr.cell? ⟨g18, 0, none⟩ = some (.string ys.1) := HY10.out.cell 0
                      have c05 : (l : Int) < LA.length := by omega
                      clear hget hain hjl hil e1i e2j hnext haa hxa hall hq
                      go_upto_region 28 with (first | ((with_reducible refine gate_dst (N := 22) rfl ?_); refine wpList_alloc_store rfl rfl 28 22 (.tmp 98) rfl rfl rfl #[.string ⟨#[]⟩, .string ⟨#[]⟩, .string ⟨#[]⟩] #[.string xs.1, .string ys.1, .string a] _ (z28v _) rfl i28 rfl (by simp [Value.oneCell']) ?hy ?hp ?_; (case hy => rfl); (case hp => rfl)))
                      (try simp only [Act.put])
                      have hb := below_alloc (Below.refl _ wr) (.cells #[.string xs.1, .string ys.1, .string a] 28)
                      have hs22 : Stays (wr.alloc (.cells #[.string xs.1, .string ys.1, .string a] 28)) wr.heap.size #[.string xs.1, .string ys.1, .string a] 28 := heap_alloc_new wr _
                      have hL := Kd.R_below HL10.out hb
                      have hB := below_then HB10.out HB10.out.size hb
                      have hR := HR10.out.below hb
                      have hX := HX10.out.below hb
                      have hY := HY10.out.below hb
                      have hBX := HBX10.out.below hb
                      obtain ⟨W11, hW11⟩ : ∃ W11, W11 = wr.alloc (.cells #[.string xs.1, .string ys.1, .string a] 28) := ⟨_, rfl⟩
                      obtain ⟨g22, hg22⟩ : ∃ g22, g22 = wr.heap.size := ⟨_, rfl⟩
                      rw [← hW11] at hs22 hL hB hR hX hY hBX ⊢
                      rw [← hg22] at hs22 ⊢
                      have HS22 := Aside0.mk hs22
                      have HL11 := Aside0.mk hL
                      have HB11 := Aside0.mk hB
                      have HR11 := Aside0.mk hR
                      have HX11 := Aside0.mk hX
                      have HY11 := Aside0.mk hY
                      have HBX11 := Aside0.mk hBX
                      have HP11 := Aside0.mk (HP4.out.below hB)
                      have HLIM := Aside0.mk (show (L3.length + 1) * 48 ≤ 140737488355328 by have := HN10.out; omega)
                      clear hb hs22 hL hB hR hX hY hBX hW11 hg22 x16 y18 ya
                      have hCr : Kd.C k78 W11 Ar RU.length RU := by
                        obtain ⟨A', c', e', _, hr⟩ := HR11.out.reads
                        obtain ⟨rfl, rfl⟩ : Ar = A' ∧ cr = c' := by simpa using e'
                        exact hr.imp_ (Below.refl _ _) (fun p c hp => k78.K_below HB11.out hp)
                      have HCR := Aside0.mk hCr
                      clear hCr
                      cases q with
                      | false =>
                        have HGn := Aside0.mk (fun t => (HG10.out t).trans ⟨fun h => (HNEXT.out t).2 (.inl h), fun h => ((HNEXT.out t).1 h).elim id (fun h2 => by rw [h2.1, HALL.out] at h2; exact absurd h2.2 (by simp))⟩ : ∀ t, t ∈ L3 ↔ Got d (ps.map (·.1)) LO LA i j (l + 1) t)
                        by_cases hru : RU.length = 0
                        · have hz0 : decide ((0 : Int) < RU.length) = false := by rw [decide_eq_false_iff_not]; omega
                          have hz1 : ¬ (0 : Int) < RU.length := by omega
                          have hz2 : ¬ 0 < RU.length := by omega
                          have HALLS := Aside0.mk (And.intro HL11 (And.intro HB11 (And.intro HR11 (And.intro HX11 (And.intro HY11 (And.intro HBX11 HGn))))))
                          clear hru HL11 HB11 HR11 HX11 HY11 HBX11 HGn
                          go_wp2
                          go_roundw
                          case rel => obtain ⟨q1, q2, q3, q4, q5, q6, q7⟩ := HALLS.out; exact ⟨l + 1, L3, by omega, by go_num, q1, q2, q3, q4, q5, q6, q7, ⟨by have := HN10.out; omega⟩⟩
                          case measure => simp [intOf]; omega
                        · have hz0 : (0 : Int) < RU.length := by omega
                          clear hru
                          have y0 : W11.cell? ⟨w.heap.size, 0, none⟩ = some (.slice A0 d.acts.length c0) := HBX11.out.cell 0
                          have y1 : W11.cell? ⟨w.heap.size, 1, none⟩ = some (.slice A1 d.subs.length c1) := HBX11.out.cell 1
                          have y2 : W11.cell? ⟨w.heap.size, 2, none⟩ = some (.slice A2 d.roles.length c2) := HBX11.out.cell 2
                          have y3 : W11.cell? ⟨w.heap.size, 3, none⟩ = some (.slice A3 d.objs.length c3) := HBX11.out.cell 3
                          have y4 : W11.cell? ⟨w.heap.size, 4, none⟩ = some (.slice A4 d.grps.length c4) := HBX11.out.cell 4
                          have y5 : W11.cell? ⟨w.heap.size, 5, none⟩ = some (.slice A5 d.mem.length c5) := HBX11.out.cell 5
                          have y6 : W11.cell? ⟨w.heap.size, 6, none⟩ = some (.slice A6 d.inh.length c6) := HBX11.out.cell 6
                          have y7 : W11.cell? ⟨w.heap.size, 7, none⟩ = some (.slice A7 d.par.length c7) := HBX11.out.cell 7
                          have y8 : W11.cell? ⟨w.heap.size, 8, none⟩ = some (.slice A8 d.wit.length c8) := HBX11.out.cell 8
                          have y9 : W11.cell? ⟨w.heap.size, 9, none⟩ = some (.slice A9 d.rules.length c9) := HBX11.out.cell 9
                          have y10 : W11.cell? ⟨w.heap.size, 10, none⟩ = some (.slice A10 d.exc.length c10) := HBX11.out.cell 10
                          have z0 : W11.cell? ⟨g22, 0, none⟩ = some (.string xs.1) := HS22.out.cell 0
                          have z1 : W11.cell? ⟨g22, 1, none⟩ = some (.string ys.1) := HS22.out.cell 1
                          have z2 : W11.cell? ⟨g22, 2, none⟩ = some (.string a) := HS22.out.cell 2
                          go_wp2_with (go_at_call 63; (refine (allows_calls (Pol.mk d A0 c0 A1 c1 A2 c2 A3 c3 A4 c4 A5 c5 A6 c6 A7 c7 A8 c8 A9 c9 A10 c10) Ar cr RU ⟨xs.1, ys.1, a⟩ _ HCR.out HP11.out.h10 HP11.out.l10 _ HQ.out).mono ?_); rintro e w12 ⟨rfl, hb12⟩; have HL12 := Aside0.mk (Kd.R_below HL11.out hb12); have HB12 := Aside0.mk (below_then HB11.out HB11.out.size hb12); have HR12 := Aside0.mk (HR11.out.below hb12); have HX12 := Aside0.mk (HX11.out.below hb12); have HY12 := Aside0.mk (HY11.out.below hb12); have HBX12 := Aside0.mk (HBX11.out.below hb12); have HS12 := Aside0.mk (HS22.out.below hb12); clear hb12)
                          go_roundw
                          case rel => exact ⟨l + 1, L3, by omega, by go_num, HL12, HB12, HR12, HX12, HY12, HBX12, HGn, ⟨by have := HN10.out; omega⟩⟩
                          case measure => simp [intOf]; omega
                      | true =>
                        have hru : RU.length ≠ 0 := fun e => by
                          have hnil : RU = [] := List.length_eq_zero_iff.1 e
                          have hq2 := HQ.out
                          rw [hnil, allowsF_iff] at hq2
                          obtain ⟨⟨⟨r, hr, _⟩, _⟩, _⟩ := hq2
                          simp at hr
                        have hz0 : (0 : Int) < RU.length := by omega
                        clear hru
                        have y0 : W11.cell? ⟨w.heap.size, 0, none⟩ = some (.slice A0 d.acts.length c0) := HBX11.out.cell 0
                        have y1 : W11.cell? ⟨w.heap.size, 1, none⟩ = some (.slice A1 d.subs.length c1) := HBX11.out.cell 1
                        have y2 : W11.cell? ⟨w.heap.size, 2, none⟩ = some (.slice A2 d.roles.length c2) := HBX11.out.cell 2
                        have y3 : W11.cell? ⟨w.heap.size, 3, none⟩ = some (.slice A3 d.objs.length c3) := HBX11.out.cell 3
                        have y4 : W11.cell? ⟨w.heap.size, 4, none⟩ = some (.slice A4 d.grps.length c4) := HBX11.out.cell 4
                        have y5 : W11.cell? ⟨w.heap.size, 5, none⟩ = some (.slice A5 d.mem.length c5) := HBX11.out.cell 5
                        have y6 : W11.cell? ⟨w.heap.size, 6, none⟩ = some (.slice A6 d.inh.length c6) := HBX11.out.cell 6
                        have y7 : W11.cell? ⟨w.heap.size, 7, none⟩ = some (.slice A7 d.par.length c7) := HBX11.out.cell 7
                        have y8 : W11.cell? ⟨w.heap.size, 8, none⟩ = some (.slice A8 d.wit.length c8) := HBX11.out.cell 8
                        have y9 : W11.cell? ⟨w.heap.size, 9, none⟩ = some (.slice A9 d.rules.length c9) := HBX11.out.cell 9
                        have y10 : W11.cell? ⟨w.heap.size, 10, none⟩ = some (.slice A10 d.exc.length c10) := HBX11.out.cell 10
                        have z0 : W11.cell? ⟨g22, 0, none⟩ = some (.string xs.1) := HS22.out.cell 0
                        have z1 : W11.cell? ⟨g22, 1, none⟩ = some (.string ys.1) := HS22.out.cell 1
                        have z2 : W11.cell? ⟨g22, 2, none⟩ = some (.string a) := HS22.out.cell 2
                        go_upto_region 29 with (go_at_call 63; (refine (allows_calls (Pol.mk d A0 c0 A1 c1 A2 c2 A3 c3 A4 c4 A5 c5 A6 c6 A7 c7 A8 c8 A9 c9 A10 c10) Ar cr RU ⟨xs.1, ys.1, a⟩ _ HCR.out HP11.out.h10 HP11.out.l10 _ HQ.out).mono ?_); rintro e w12 ⟨rfl, hb12⟩; have HL12 := Aside0.mk (Kd.R_below HL11.out hb12); have HB12 := Aside0.mk (below_then HB11.out HB11.out.size hb12); have HR12 := Aside0.mk (HR11.out.below hb12); have HX12 := Aside0.mk (HX11.out.below hb12); have HY12 := Aside0.mk (HY11.out.below hb12); have HBX12 := Aside0.mk (HBX11.out.below hb12); have HS12 := Aside0.mk (HS22.out.below hb12); clear hb12)
                        clear y0 y1 y2 y3 y4 y5 y6 y7 y8 y9 y10 z0 z1 z2
                        go_upto_region 30 with (first | ((with_reducible refine gate_dst (N := 109) rfl ?_); refine wpList_load_blk rfl 28 (.tmp 22) rfl g22 ?hx #[.string xs.1, .string ys.1, .string a] 28 HS12.out _ Try.underlying28 rfl i28 ?_; (case hx => rfl)) | (at_builtin; refine Kd.R_append k28 (w0 := w4) w4.heap.size rfl (.tmp 108) (.tmp 110) 37 28 (.agg #[.string ⟨#[]⟩, .string ⟨#[]⟩, .string ⟨#[]⟩]) 48 rfl Try.underlying37 info28 rfl (by decide) (by decide) u14 L3 ⟨xs.1, ys.1, a⟩ [.string xs.1, .string ys.1, .string a] (fun _ => True) (fun _ => False) rfl rfl (k28_mkM _ _ _ (⟨xs.1, ys.1, a⟩ : S28)) (fun _ hk => hk.elim) (fun _ _ => trivial) HL12.out HB12.out HB12.out.size HLIM.out ?_; intro v13 w13 hR13 hB13 hg13 hat13))
                        have HX13 := Aside0.mk (own_stays HL12.out hg13 HX12.out (by decide))
                        have HY13 := Aside0.mk (own_stays HL12.out hg13 HY12.out (by decide))
                        have HBX13 := Aside0.mk (own_stays HL12.out hg13 HBX12.out (by decide))
                        have HR13 := Aside0.mk (own_other_row HL12.out hg13 HR12.out (by decide))
                        have HL13 := Aside0.mk hR13
                        have HB13 := Aside0.mk hB13
                        have HG13 := Aside0.mk (fun t => by
                          rw [List.mem_append, List.mem_singleton, HNEXT.out t, HG10.out t]
                          constructor
                          · rintro (h | h)
                            · exact .inl h
                            · exact .inr ⟨h, by rw [h]; exact HALL.out⟩
                          · rintro (h | h)
                            · exact .inl h
                            · exact .inr h.1 : ∀ t, t ∈ L3 ++ [(⟨xs.1, ys.1, a⟩ : S28)] ↔ Got d (ps.map (·.1)) LO LA i j (l + 1) t)
                        clear hR13 hB13 hg13 hat13
                        go_wp2
                        go_roundw
                        case rel => exact ⟨l + 1, _, by omega, by go_num, HL13, HB13, HR13, HX13, HY13, HBX13, HG13, ⟨by have := HN10.out; rw [List.length_append, List.length_singleton]; omega⟩⟩
                        case measure => simp [intOf]; omega
                    · have hll : l = LA.length := by omega
                      subst hll
                      have HG11 := Aside0.mk (fun t => (HG10.out t).trans (Got.nextObj (by have := congrArg List.length HNW.out; rw [List.length_map] at this; omega)) : ∀ t, t ∈ L3 ↔ Got d (ps.map (·.1)) LO LA i (j + 1) 0 t)
                      go_wp2
                      go_roundw
                      case rel => exact ⟨j + 1, L3, by omega, by go_num, HL10, HB10, HX10, HG11, ⟨by have := HN10.out; omega⟩⟩
                      case measure => simp [intOf]; omega
                · have hjj : j = ps2.length := by omega
                  subst hjj
                  have hLOl : LO.length = ps2.length := by have := congrArg List.length HNW.out; rw [List.length_map] at this; exact this.symm
                  have HLOL := Aside0.mk hLOl
                  have hps3 : (ps.map (·.1)).length = ps.length := List.length_map _
                  have HG8 := Aside0.mk (fun t => (HG7.out t).trans (by rw [← HLOL.out]; exact Got.nextSub (by rw [List.length_map]; exact hlt3)) : ∀ t, t ∈ L2 ↔ Got d (ps.map (·.1)) LO LA (i + 1) 0 0 t)
                  clear hLOl hps3
                  go_wp2
                  go_roundw
                  case rel => exact ⟨i + 1, L2, by omega, by go_num, HL7, HB7, HG8, ⟨by have := HN7.out; omega⟩⟩
                  case measure => simp [intOf]; omega
            · have hii : i = ps.length := by omega
              subst hii
              have hfin : ∀ t, t ∈ L ↔ ((∃ y ∈ d.subs, y.f0 = t.f0) ∧ d.allowB t = true) := fun t => by
                have h1 := HG.out t
                have h0 := Got.all (d := d) (ns := ps.map (·.1)) (LO := LO) (LA := LA) (t := t)
                rw [List.length_map, HLOM.out, HLAM.out, HM1.out] at h0
                rw [h1, h0]
                constructor
                · rintro ⟨h2, -, -, h5⟩; exact ⟨h5, h2⟩
                · rintro ⟨h5, h2⟩
                  refine ⟨h2, ?_, ?_, h5⟩
                  · unfold PolD.allowB at h2; simp only [Bool.and_eq_true, decide_eq_true_eq] at h2; exact h2.2.1
                  · unfold PolD.allowB at h2; simp only [Bool.and_eq_true, decide_eq_true_eq] at h2; exact h2.2.2.1
              have HFIN := Aside0.mk hfin
              clear hfin
              go_wp2
              go_ret
              exact ⟨_, rfl, L, Kd.R_lower HL3.out (by have := HW4.out.below.size; have := HR4.out.below.size; omega), HFIN.out, by have := HN3.out; omega, below_then HR4.out.below HR4.out.below.size HB5.out⟩
end Go.Proofs.Ythaiodklfoegiaa.MPol

/- graph.masks, walked. -/
namespace Go.Proofs.Ythaiodklfoegiaa.CMasks
open Go.RowKit Go.Proofs.YthaiodklfoegiaaW.PrintWords Go.Proofs.YthaiodklfoegiaaW.PrintLast Go.Proofs.YthaiodklfoegiaaW.PrintMore Go.Proofs.Ythaiodklfoegiaa.BMap Go.Proofs.Ythaiodklfoegiaa.BRow Go.Proofs.Ythaiodklfoegiaa.GDiffer Go.Proofs.Ythaiodklfoegiaa.GBlk Go.Proofs.Ythaiodklfoegiaa.CPure Go.Proofs.Ythaiodklfoegiaa.CBits Go.Proofs.Ythaiodklfoegiaa.CClasses Go.Proofs.Ythaiodklfoegiaa.MLines Go.Proofs.Ythaiodklfoegiaa.MSide Go.Proofs.Ythaiodklfoegiaa.MPol Go.Maps
open Go.Proofs.Ythaiodklfoegiaa Go.Proofs.Ythaiodklfoegiaa.PG

/-- Where a name stands. -/
def numsAt (l : List ByteArray) (s : ByteArray) : List Int := (l.zipIdx.filter (fun p => decide (p.1 = s))).map (fun p => ((p.2 : Nat) : Int))
theorem numsAt_snoc (l : List ByteArray) (a s : ByteArray) : numsAt (l ++ [a]) s = numsAt l s ++ if a = s then [(l.length : Int)] else [] := by
  unfold numsAt
  rw [List.zipIdx_append, List.filter_append, List.map_append]
  congr 1
  by_cases h : a = s <;> simp [h]
theorem mem_numsAt (l : List ByteArray) (s : ByteArray) (k : Nat) : (k : Int) ∈ numsAt l s ↔ l[k]? = some s := by
  unfold numsAt
  simp only [List.mem_map, List.mem_filter, decide_eq_true_eq]
  constructor
  · rintro ⟨⟨x, i⟩, ⟨h1, h2⟩, h3⟩
    have h4 := List.mk_mem_zipIdx_iff_getElem?.1 h1
    obtain rfl : i = k := by have h3 : (i : Int) = k := h3; omega
    obtain rfl : x = s := h2
    exact h4
  · intro h
    exact ⟨(s, k), ⟨List.mk_mem_zipIdx_iff_getElem?.2 h, rfl⟩, rfl⟩
theorem numsAt_length (l : List ByteArray) (s : ByteArray) : (numsAt l s).length ≤ l.length := by
  unfold numsAt
  rw [List.length_map]
  have := List.length_filter_le (fun p : ByteArray × Nat => decide (p.1 = s)) l.zipIdx
  simpa using this

/-- Block b of wr is the map of the first names' places. -/
structure Nums (w wr : World) (b : Nat) (f : ByteArray → Option Value) (n : Nat) (l : List ByteArray) : Prop where
  map : MapF Value.string id okS wr b f n
  ge : w.heap.size ≤ b
  no : ∀ s, f s = none → numsAt l s = []
  vals : ∀ s v, f s = some v → Kd.R (Kd.int .i64) 3 wr w.heap.size (fun k => k ≠ b) v (numsAt l s)
  apart : ∀ s s' v v' k, s ≠ s' → f s = some v → f s' = some v' → v.ownBlock = some k → v'.ownBlock ≠ some k
  below : Below w.heap.size w wr
theorem z23 (w : World) : (zeroValue 23).run Try.prog w = .ok (.slice none 0 0) w := by kernel_rfl
theorem Nums.move {w wr w1 : World} {b : Nat} {f : ByteArray → Option Value} {n : Nat} {l : List ByteArray} (h : Nums w wr b f n l) (hb : Below wr.heap.size wr w1) : Nums w w1 b f n l :=
  ⟨h.map.below hb, h.ge, h.no, fun s v hv => Kd.R_below (h.vals s v hv) hb, h.apart, below_then h.below h.below.size hb⟩
theorem Nums.grown {w wr w1 : World} {b : Nat} {f : ByteArray → Option Value} {n : Nat} {l : List ByteArray} {row : Nat} (h : Nums w wr b f n l) (hg : wr.grownBy w1 (some row)) (hge : w.heap.size ≤ row) (hne : b ≠ row) (hr : ∀ s v, f s = some v → v.ownBlock ≠ some row) : Nums w w1 b f n l where
  map := h.map.grown hg (fun e => hne (Option.some.inj e))
  ge := h.ge
  no := h.no
  vals := fun s v hv => Kd.R_mono (Kd.R_grown (Cl.okR (ok' := fun k => k ≠ b ∧ k ≠ row) (h.vals s v hv) (fun k hk => ⟨(h.vals s v hv).1 k hk, fun e => hr s v hv (by rw [hk, e])⟩)) hg (fun k hk e => hk.2 (Option.some.inj e))) (fun k hk => hk.1)
  apart := h.apart
  below := h.below.grown hg h.below.size (fun k hk => by cases hk; exact hge)
/-- One more name. -/
theorem Nums.put {w W w1 w4 : World} {b : Nat} {f : ByteArray → Option Value} {n n' : Nat} {l : List ByteArray} {a : ByteArray} {v0 v1 : Value} (h : Nums w W b f n l) (hv0 : v0 = (f a).getD (.slice none 0 0))
    (hR1 : Kd.R (Kd.int .i64) 3 w1 w.heap.size (fun k => k ≠ b) v1 (numsAt l a ++ [(l.length : Int)])) (hB1 : Below w.heap.size w w1) (hg1 : W.grownBy w1 v0.ownBlock) (hat1 : v1.ownBlock = v0.ownBlock ∨ ∃ b, v1.ownBlock = some b ∧ W.heap.size ≤ b)
    (hM4 : MapF Value.string id okS w4 b (upd f a v1) n') (hg4 : w1.grownBy w4 (some b)) : Nums w w4 b (upd f a v1) n' (l ++ [a]) where
  map := hM4
  ge := h.ge
  no := fun s hs => by
    by_cases e : s = a
    · subst e; rw [upd_same] at hs; cases hs
    · rw [upd_other _ _ e] at hs
      rw [numsAt_snoc, if_neg (fun k => e k.symm), List.append_nil, h.no s hs]
  vals := fun s v hs => by
    by_cases e : s = a
    · subst e
      rw [upd_same] at hs
      obtain rfl := Option.some.inj hs
      rw [numsAt_snoc, if_pos rfl]
      exact Kd.R_grown hR1 hg4 (fun k hk => fun e => hk (Option.some.inj e))
    · rw [upd_other _ _ e] at hs
      rw [numsAt_snoc, if_neg (fun k => e k.symm), List.append_nil]
      have h1 := h.vals s v hs
      have h2 : Kd.R (Kd.int .i64) 3 W w.heap.size (fun k => k ≠ b ∧ some k ≠ v0.ownBlock) v (numsAt l s) := Cl.okR h1 fun k hk => ⟨h1.1 k hk, by
        subst hv0
        cases hf : f a with
        | none => simp [Value.ownBlock]
        | some v' =>
          intro hh
          exact h.apart s a v v' k e hs hf hk hh.symm⟩
      have h3 := Kd.R_grown h2 hg1 (fun k hk => hk.2)
      exact Kd.R_mono (Kd.R_grown h3 hg4 (fun k hk => fun e => hk.1 (Option.some.inj e))) (fun k hk => hk.1)
  apart := fun s s' v v' k hne hs hs' hk hk' => by
    have hfar : ∀ t u, t ≠ a → f t = some u → u.ownBlock = some k → v1.ownBlock = some k → False := by
      intro t u ht hu huk h1k
      rcases hat1 with e | ⟨g, e, hge⟩
      · subst hv0
        cases hf : f a with
        | none => rw [hf] at e; rw [e] at h1k; simp [Value.ownBlock] at h1k
        | some u' => rw [hf] at e; rw [e] at h1k; exact h.apart t a u u' k ht hu hf huk h1k
      · rw [e] at h1k
        have := Cl.ltR (h.vals t u hu) k huk
        have := Option.some.inj h1k
        omega
    by_cases e : s = a
    · by_cases e' : s' = a
      · exact hne (e.trans e'.symm)
      · rw [e, upd_same] at hs
        rw [upd_other _ _ e'] at hs'
        obtain rfl := Option.some.inj hs
        exact hfar s' v' e' hs' hk' hk
    · rw [upd_other _ _ e] at hs
      by_cases e' : s' = a
      · rw [e', upd_same] at hs'
        obtain rfl := Option.some.inj hs'
        exact hfar s v e hs hk hk'
      · rw [upd_other _ _ e'] at hs'
        exact h.apart s s' v v' k hne hs hs' hk hk'
  below := hB1.grown hg4 (Nat.le_trans h.below.size (hg1.size)) (fun k hk => by cases hk; exact h.ge)
/-- What a look-up brings. -/
theorem Nums.lk {w wr : World} {b : Nat} {f : ByteArray → Option Value} {n : Nat} {l : List ByteArray} (h : Nums w wr b f n l) {s : ByteArray} (hs : okS s) : (Instr.lookup 109 (.map (some b)) (.string s) false).run Try.prog wr = .ok ((f s).getD (.slice none 0 0)) wr := by
  have hq := h.map.lookup str_key Try.underlying109 (z23 wr) hs false
  simp only [Bool.false_eq_true, if_false, Option.map_id_fun, id] at hq
  exact hq
theorem Nums.read {w wr : World} {b : Nat} {f : ByteArray → Option Value} {n : Nat} {l : List ByteArray} (h : Nums w wr b f n l) (s : ByteArray) : ∃ A c, (f s).getD (.slice none 0 0) = .slice A (numsAt l s).length c ∧ Kd.C (Kd.int .i64) wr A (numsAt l s).length (numsAt l s) ∧ (numsAt l s).length ≤ c := by
  cases hf : f s with
  | none =>
    rw [h.no s hf]
    exact ⟨none, 0, rfl, ⟨rfl, by simp, fun h => absurd h (by simp)⟩, Nat.le_refl _⟩
  | some v =>
    obtain ⟨A, c, rfl, hl, hr⟩ := Kd.R_reads (h.vals s v hf)
    exact ⟨A, c, rfl, hr, hl⟩
theorem own_not_map {κ β : Type} {kenc : κ → Value} {venc : β → Value} {ok' : κ → Prop} {w : World} {b n : Nat} {fm : κ → Option β} (hM : MapF kenc venc ok' w b fm n) {α : Type} {dk : Kd α} {e base : Nat} {ok : Nat → Prop} {v : Value} {xs : List α} (h : dk.R e w base ok v xs) : v.ownBlock ≠ some b := by
  intro hb
  obtain ⟨inner, ho⟩ := Kd.R_own h
  obtain ⟨cells, hc⟩ := own_typed ho b hb
  obtain ⟨es, cl, l, h2, _⟩ := hM.out
  rw [h2] at hc
  cases hc
theorem Nums.beside {κ β : Type} {kenc : κ → Value} {venc : β → Value} {ok' : κ → Prop} {w wr w1 : World} {b n na ga : Nat} {f : ByteArray → Option Value} {fm : κ → Option β} {l : List ByteArray} (h : Nums w wr b f n l) (hM : MapF kenc venc ok' wr ga fm na) (hge : w.heap.size ≤ ga) (hne : b ≠ ga) (hg : wr.grownBy w1 (some ga)) : Nums w w1 b f n l :=
  h.grown hg hge hne (fun s v hv => own_not_map hM (h.vals s v hv))

/-! ### The key of two names -/
abbrev PK := ByteArray × ByteArray
def okP (p : PK) : Prop := okS p.1 ∧ okS p.2
def pairV (p : PK) : Value := .agg #[.string p.1, .string p.2]
theorem pair_law : WideMaps.KeyLaw Try.prog 82 := deep_law_gate laidOut (of_decide_eq_true (by kernel_rfl)) (of_decide_eq_true (by kernel_rfl)) (by kernel_rfl) (by kernel_rfl)
theorem type82 : Try.prog.keyType 82 = true := by kernel_rfl
theorem cells82 : Try.prog.cellsOf 82 = 2 := by kernel_rfl
theorem cells9 : Try.prog.cellsOf 9 = 1 := by kernel_rfl
theorem str_lits (d : Nat) (s : ByteArray) (h : okS s) : Try.prog.keyLits (d + 1) 9 [.string s] = some [.string s.data.toList] := by
  have hm : s.size ≤ maxLen := Nat.le_trans h (by decide)
  unfold Program.keyLits
  rw [Try.underlying9]
  simp [hm]
theorem pair_is (p : PK) (h : okP p) : ∃ x, keyOf Try.prog 82 (pairV p) = some x := by
  obtain ⟨h1, h2⟩ := h
  have hk : Try.prog.keyLits (Try.prog.types.size + 1) 82 [.string p.1, .string p.2] = some [.string p.1.data.toList, .string p.2.data.toList] := by
    obtain ⟨dep, hdep⟩ := depth
    rw [hdep]
    unfold Program.keyLits
    rw [Try.underlying82]
    simp [cells82, cells9, str_lits _ _ h1, str_lits _ _ h2]
  unfold keyOf
  rw [Try.underlying82]
  have hf : (pairV p).formed Try.prog 82 = true := by
    simp [Value.formed, pairV, Try.underlying82, cells82]
  simp only [type82, hf, Bool.and_self, if_true]
  show ∃ x, (Try.prog.keyLits (Try.prog.types.size + 1) 82 #[Value.string p.1, .string p.2].toList).map _ = some x
  rw [List.toList_toArray, hk]
  exact ⟨_, rfl⟩
theorem pair_key : KeyOk Try.prog 82 pairV okP := ⟨Keyed.of_law pair_law, pair_is, fun a b h => by
  simp only [pairV, Value.agg.injEq] at h
  have := congrArg Array.toList h
  simp at this
  exact Prod.ext this.1 this.2⟩
abbrev MapP := MapF pairV (Value.int .u16) okP
theorem zero31 (w : World) : (zeroValue 31).run Try.prog w = .ok (.int .u16 0) w := by kernel_rfl
theorem pair_look {w : World} {b : Nat} {f : PK → Option Int} {n : Nat} (hM : MapP w b f n) {p : PK} (hp : okP p) : (Instr.lookup 79 (.map (some b)) (.agg #[.string p.1, .string p.2]) false).run Try.prog w = .ok (.int .u16 ((f p).getD 0)) w := by
  have hq := hM.lookup pair_key Try.underlying79 (zero31 w) hp false
  have e : ((f p).map (Value.int IntKind.u16)).getD (.int .u16 0) = .int .u16 ((f p).getD 0) := by cases f p <;> rfl
  simp only [Bool.false_eq_true, if_false, e] at hq
  exact hq

/-- The masks of a policy's names: what the map holds. -/
structure Alls (l : List ByteArray) (L : List S28) (f : PK → Option Int) : Prop where
  ok : ∀ p, ∃ m : Nat, (f p).getD 0 = m ∧ m < 65536 ∧ ∀ k, m.testBit k = true ↔ k < 16 ∧ ∃ a, l[k]? = some a ∧ (⟨p.1, p.2, a⟩ : S28) ∈ L
theorem Alls.none_ (l : List ByteArray) : Alls l [] (fun _ => none) := ⟨fun _ => ⟨0, rfl, by omega, fun k => by simp⟩⟩
theorem Alls.put {l : List ByteArray} {L : List S28} {f : PK → Option Int} (h : Alls l L f) (t : S28) (m : Nat) (hm : (f (t.f0, t.f1)).getD 0 = m) : Alls l (L ++ [t]) (upd f (t.f0, t.f1) ((m ||| orBits (numsAt l t.f2) : Nat) : Int)) := by
  refine ⟨fun p => ?_⟩
  obtain ⟨m', h1, h2, h3⟩ := h.ok p
  by_cases e : p = (t.f0, t.f1)
  · subst e
    obtain rfl : m' = m := by have := h1.symm.trans hm; omega
    refine ⟨m' ||| orBits (numsAt l t.f2), by rw [upd_same]; rfl, Nat.or_lt_two_pow (n := 16) h2 (orBits_lt _), fun k => ?_⟩
    rw [Nat.testBit_or, Bool.or_eq_true, h3, orBits_bit, decide_eq_true_eq, mem_numsAt]
    constructor
    · rintro (⟨h4, a, h5, h6⟩ | ⟨h4, h5⟩)
      · exact ⟨h4, a, h5, List.mem_append_left _ h6⟩
      · exact ⟨h4, _, h5, List.mem_append_right _ (List.mem_singleton.2 rfl)⟩
    · rintro ⟨h4, a, h5, h6⟩
      rcases List.mem_append.1 h6 with h6 | h6
      · exact .inl ⟨h4, a, h5, h6⟩
      · refine .inr ⟨h4, ?_⟩
        have := List.mem_singleton.1 h6
        rw [h5, ← this]
  · refine ⟨m', by rw [upd_other _ _ e]; exact h1, h2, fun k => ?_⟩
    rw [h3]
    constructor
    · rintro ⟨h4, a, h5, h6⟩
      exact ⟨h4, a, h5, List.mem_append_left _ h6⟩
    · rintro ⟨h4, a, h5, h6⟩
      refine ⟨h4, a, h5, ?_⟩
      rcases List.mem_append.1 h6 with h6 | h6
      · exact h6
      · exact absurd (by rw [← List.mem_singleton.1 h6]) e

set_option maxHeartbeats 4000000 in
set_option maxRecDepth 100000 in
theorem masks_calls (p : Pol) (w : World) (hp : p.In w) (hd : p.d.Ok) (hs : p.d.subs.length ≤ 64) (ho : p.d.objs.length ≤ 64) (ha : p.d.acts.length ≤ 16) :
    Calls Try.prog 48 #[.agg p.cells] w fun e w' => ∃ b f n L, e = .returned (.map (some b)) ∧ MapP w' b f n ∧ Alls p.d.acts L f ∧ (∀ t, t ∈ L ↔ ((∃ y ∈ p.d.subs, y.f0 = t.f0) ∧ p.d.allowB t = true)) ∧ w.heap.size ≤ b ∧ Below w.heap.size w w' := by
  obtain ⟨d, A0, c0, A1, c1, A2, c2, A3, c3, A4, c4, A5, c5, A6, c6, A7, c7, A8, c8, A9, c9, A10, c10⟩ := p
  have HP := Aside0.mk hp
  have HD := Aside0.mk hd
  have HS := Aside0.mk hs
  have HO := Aside0.mk ho
  have HA := Aside0.mk ha
  have hmax : d.acts.length ≤ 16 := ha
  clear hp hd hs ho ha
  have hst0 : Stays (w.alloc (.cells (Pol.cells (Pol.mk d A0 c0 A1 c1 A2 c2 A3 c3 A4 c4 A5 c5 A6 c6 A7 c7 A8 c8 A9 c9 A10 c10)) 39)) w.heap.size (Pol.cells (Pol.mk d A0 c0 A1 c1 A2 c2 A3 c3 A4 c4 A5 c5 A6 c6 A7 c7 A8 c8 A9 c9 A10 c10)) 39 := heap_alloc_new w _
  have HST := Aside0.mk hst0
  have e0 := hst0.cell 0
  simp only [Pol.cells, List.getElem?_toArray, List.getElem?_cons_zero] at e0
  clear hst0
  unfold Pol.cells
  unfold Pol.cells at HST
  simp only [] at HST e0 ⊢
  have hmm := @run_makeMap Try.prog
  go_enter Try.func48, Try.ntmps48
  go_upto_region 2 with fail
  have hW0s : Stays ((w.alloc (.cells #[.slice A0 d.acts.length c0, .slice A1 d.subs.length c1, .slice A2 d.roles.length c2, .slice A3 d.objs.length c3, .slice A4 d.grps.length c4, .slice A5 d.mem.length c5, .slice A6 d.inh.length c6, .slice A7 d.par.length c7, .slice A8 d.wit.length c8, .slice A9 d.rules.length c9, .slice A10 d.exc.length c10] 39)).alloc (.map #[] 0)) w.heap.size #[.slice A0 d.acts.length c0, .slice A1 d.subs.length c1, .slice A2 d.roles.length c2, .slice A3 d.objs.length c3, .slice A4 d.grps.length c4, .slice A5 d.mem.length c5, .slice A6 d.inh.length c6, .slice A7 d.par.length c7, .slice A8 d.wit.length c8, .slice A9 d.rules.length c9, .slice A10 d.exc.length c10] 39 := HST.out.below (below_alloc (Below.refl _ _) _)
  have hW0b : Below w.heap.size w ((w.alloc (.cells #[.slice A0 d.acts.length c0, .slice A1 d.subs.length c1, .slice A2 d.roles.length c2, .slice A3 d.objs.length c3, .slice A4 d.grps.length c4, .slice A5 d.mem.length c5, .slice A6 d.inh.length c6, .slice A7 d.par.length c7, .slice A8 d.wit.length c8, .slice A9 d.rules.length c9, .slice A10 d.exc.length c10] 39)).alloc (.map #[] 0)) := below_alloc (below_alloc (Below.refl _ _) _) _
  have hW0n : Nums w ((w.alloc (.cells #[.slice A0 d.acts.length c0, .slice A1 d.subs.length c1, .slice A2 d.roles.length c2, .slice A3 d.objs.length c3, .slice A4 d.grps.length c4, .slice A5 d.mem.length c5, .slice A6 d.inh.length c6, .slice A7 d.par.length c7, .slice A8 d.wit.length c8, .slice A9 d.rules.length c9, .slice A10 d.exc.length c10] 39)).alloc (.map #[] 0)) (w.heap.size + 1) (fun _ => none) 0 [] := by
    have hM := MapF.made (kenc := Value.string) (venc := (id : Value → Value)) (ok := okS) (w.alloc (.cells #[.slice A0 d.acts.length c0, .slice A1 d.subs.length c1, .slice A2 d.roles.length c2, .slice A3 d.objs.length c3, .slice A4 d.grps.length c4, .slice A5 d.mem.length c5, .slice A6 d.inh.length c6, .slice A7 d.par.length c7, .slice A8 d.wit.length c8, .slice A9 d.rules.length c9, .slice A10 d.exc.length c10] 39))
    have hz : (w.alloc (.cells #[.slice A0 d.acts.length c0, .slice A1 d.subs.length c1, .slice A2 d.roles.length c2, .slice A3 d.objs.length c3, .slice A4 d.grps.length c4, .slice A5 d.mem.length c5, .slice A6 d.inh.length c6, .slice A7 d.par.length c7, .slice A8 d.wit.length c8, .slice A9 d.rules.length c9, .slice A10 d.exc.length c10] 39)).heap.size = w.heap.size + 1 := Array.size_push ..
    rw [hz] at hM
    exact ⟨hM, by omega, fun s _ => rfl, fun s v h => by simp at h, fun s s' v v' k _ h => by simp at h, hW0b⟩
  obtain ⟨W0, hW0⟩ : ∃ W0, W0 = ((w.alloc (.cells #[.slice A0 d.acts.length c0, .slice A1 d.subs.length c1, .slice A2 d.roles.length c2, .slice A3 d.objs.length c3, .slice A4 d.grps.length c4, .slice A5 d.mem.length c5, .slice A6 d.inh.length c6, .slice A7 d.par.length c7, .slice A8 d.wit.length c8, .slice A9 d.rules.length c9, .slice A10 d.exc.length c10] 39)).alloc (.map #[] 0)) := ⟨_, rfl⟩
  obtain ⟨gm, hgm⟩ : ∃ gm, gm = w.heap.size + 1 := ⟨_, rfl⟩
  rw [← hW0] at hW0s hW0b hW0n ⊢
  rw [← hgm] at hW0n ⊢
  have e0 := hW0s.cell 0
  simp only [List.getElem?_toArray, List.getElem?_cons_zero] at e0
  have HN0 := Aside0.mk hW0n
  have HS0 := Aside0.mk hW0s
  clear hW0s hW0b hW0n hW0 hgm HST
  go_wp2
  clear e0
  go_loopw [13] (fun u13 wr => ∃ (k : Nat) (f : ByteArray → Option Value) (n : Nat), k ≤ d.acts.length ∧ u13 = .int .i64 k ∧ Aside0 (Nums w wr gm f n (d.acts.take k)) ∧ Aside0 (Stays wr w.heap.size #[.slice A0 d.acts.length c0, .slice A1 d.subs.length c1, .slice A2 d.roles.length c2, .slice A3 d.objs.length c3, .slice A4 d.grps.length c4, .slice A5 d.mem.length c5, .slice A6 d.inh.length c6, .slice A7 d.par.length c7, .slice A8 d.wit.length c8, .slice A9 d.rules.length c9, .slice A10 d.exc.length c10] 39)) (fun u13 _ => d.acts.length - (intOf u13).toNat)
  case atStart => exact ⟨0, _, _, Nat.zero_le _, rfl, HN0, HS0⟩
  case round =>
    obtain ⟨k, f, n, hk, rfl, HN, HB⟩ := hrel
    have hpin := HP.out.below HN.out.below
    by_cases hlt : k < d.acts.length
    · obtain ⟨ad, ea, hx⟩ := Kd.at_string hpin.h0 (k : Int) (by omega) (by simp only []; omega)
      have ea : A0 = some ad := ea
      subst ea
      have hget : rdOf ByteArray.empty d.acts (k : Int) = d.acts[k] := by simp [rdOf, hlt]
      simp only [hget, Int.toNat_natCast] at hx
      have htk : d.acts.take (k + 1) = d.acts.take k ++ [d.acts[k]] := List.take_succ_eq_append_getElem hlt
      have hq := HD.out.acts d.acts[k] (List.getElem_mem hlt)
      have hlen : (d.acts.take k).length = k := by rw [List.length_take]; omega
      obtain ⟨a, haa⟩ : ∃ a, a = d.acts[k] := ⟨_, rfl⟩
      rw [← haa] at hx htk hq
      have HQ := Aside0.mk hq
      have HTK := Aside0.mk htk
      have HLEN := Aside0.mk hlen
      obtain ⟨v0, hv0⟩ : ∃ v0, v0 = (f a).getD (.slice none 0 0) := ⟨_, rfl⟩
      have hlk : (Instr.lookup 109 (.map (some gm)) (.string a) false).run Try.prog wr = .ok v0 wr := by
        have := HN.out.map.lookup str_key Try.underlying109 (z23 wr) HQ.out false
        subst hv0
        simpa using this
      have hR0 : Kd.R (Kd.int .i64) 3 wr w.heap.size (fun k => k ≠ gm) v0 (numsAt (d.acts.take k) a) := by
        subst hv0
        cases hf : f a with
        | none => rw [HN.out.no _ hf]; exact Kd.R_nil _ _ _ _ _
        | some v => exact HN.out.vals _ _ hf
      have HV0 := Aside0.mk hv0
      have HR0 := Aside0.mk hR0
      have hlim : ((numsAt (d.acts.take k) a).length + 1) * 8 ≤ 140737488355328 := by
        have h1 := numsAt_length (d.acts.take k) a
        rw [hlen] at h1
        omega
      have HLIM := Aside0.mk hlim
      have c0' : (k : Int) < d.acts.length := by omega
      clear hpin hget htk hq hlen haa hv0 hR0 hlim
      obtain ⟨La, hLa⟩ : ∃ La, La = numsAt (d.acts.take k) a := ⟨_, rfl⟩
      rw [← hLa] at HR0 HLIM
      have HLA := Aside0.mk hLa
      clear hLa
      go_wp2_with (first | ((with_reducible refine gate_builtin (b := .append) (xs := #[.tmp 22, .tmp 24]) rfl ?_); at_builtin; refine Kd.R_append (Kd.int .i64) (w0 := w) w.heap.size rfl (.tmp 22) (.tmp 24) 23 3 (.int .i64 0) 8 rfl Try.underlying23 info3 rfl (by decide) (by decide) v0 La (k : Int) [.int .i64 k] (fun b => b ≠ gm) (fun _ => False) rfl rfl rfl (fun _ hk => hk.elim) (fun k hk e => by have := HN.out.map.lt; omega) HR0.out HN.out.below HN.out.below.size HLIM.out ?_; intro v8 w8 hR8 hB8 hg8 hat8; obtain ⟨w9, hrun9, hM9, hg9⟩ := (HN.out.map.grown hg8 (fun e => HR0.out.1 _ e.symm rfl)).update str_key Try.underlying109 HQ.out v8; have hrun9 : (Instr.mapUpdate 109 (.map (some gm)) (.string a) v8).run Try.prog w8 = .ok () w9 := hrun9; have HN9 := Aside0.mk (HN.out.put HV0.out (by rw [← HLA.out, HLEN.out]; exact hR8) hB8 hg8 hat8 hM9 hg9); have HB9 := Aside0.mk (show Stays w9 w.heap.size _ 39 from (hg9.block _ (Nat.lt_of_lt_of_le (Array.getElem?_eq_some_iff.1 HB.out).1 hg8.size) (fun e => map_ne HN.out.map HB.out (Option.some.inj e))).trans ((hg8.block _ (Array.getElem?_eq_some_iff.1 HB.out).1 (Kd.R_ne HR0.out HB.out (by decide))).trans HB.out)); clear hR8 hB8 hg8 hat8 hM9 hg9))
      go_roundw
      case rel => exact ⟨k + 1, _, _, by omega, by go_num, ⟨by rw [HTK.out]; exact HN9.out⟩, HB9⟩
      case measure => simp [intOf]; omega
    · have hkk : k = d.acts.length := by omega
      subst hkk
      have hN := HN.out
      rw [List.take_length] at hN
      have HN1 := Aside0.mk hN
      obtain ⟨w1, hw1⟩ : ∃ w1, w1 = wr := ⟨_, rfl⟩
      subst hw1
      clear hN HN hpin
      have hmm := @run_makeMap Try.prog
      go_upto_region 8 with fail
      clear hmm
      have hM1 : MapP (w1.alloc (.map #[] 0)) w1.heap.size (fun _ => none) 0 := MapF.made w1
      have hb1 := below_alloc (Below.refl _ w1) (.map #[] 0)
      have hN1 := HN1.out.move hb1
      have hB1 := HB.out.below hb1
      have hne : gm ≠ w1.heap.size := by have := HN1.out.map.lt; omega
      have hga : w.heap.size ≤ w1.heap.size := HN1.out.below.size
      have hlt1 : w1.heap.size < (w1.alloc (.map #[] 0)).heap.size := hM1.lt
      obtain ⟨W1, hW1⟩ : ∃ W1, W1 = w1.alloc (.map #[] 0) := ⟨_, rfl⟩
      obtain ⟨ga, hgae⟩ : ∃ ga, ga = w1.heap.size := ⟨_, rfl⟩
      rw [← hW1] at hM1 hN1 hB1 hlt1 ⊢
      rw [← hgae] at hM1 hne hga hlt1 ⊢
      have HM2 := Aside0.mk hM1
      have HN2 := Aside0.mk hN1
      have HB2 := Aside0.mk hB1
      have HNE := Aside0.mk hne
      have HGA := Aside0.mk hga
      have HLT1 := Aside0.mk hlt1
      clear hM1 hb1 hN1 hB1 hne hga hlt1 hW1 hgae HN1 HB
      go_upto_region 9 with (first | ((with_reducible refine gate_dst (N := 28) rfl ?_); refine wpList_load_blk rfl 39 (.tmp 1) rfl w.heap.size ?hx #[.slice A0 d.acts.length c0, .slice A1 d.subs.length c1, .slice A2 d.roles.length c2, .slice A3 d.objs.length c3, .slice A4 d.grps.length c4, .slice A5 d.mem.length c5, .slice A6 d.inh.length c6, .slice A7 d.par.length c7, .slice A8 d.wit.length c8, .slice A9 d.rules.length c9, .slice A10 d.exc.length c10] 39 HB2.out _ Try.underlying39 rfl i39 ?_; (case hx => rfl)) | (go_at_call 59; (refine (Relation_calls (Pol.mk d A0 c0 A1 c1 A2 c2 A3 c3 A4 c4 A5 c5 A6 c6 A7 c7 A8 c8 A9 c9 A10 c10) _ (HP.out.below HN2.out.below) HD.out HS.out HO.out HA.out).mono ?_); rintro e w2 ⟨v29, rfl, L, hL, hspec, hlen, hb2⟩; obtain ⟨AL, cL, rfl⟩ := Kd.R_slice hL; have HL2 := Aside0.mk (Kd.R_lower (Kd.R_mono (Kd.R_bound hL) (ok' := fun b => b ≠ ga) (fun k hk e => by have h1 := hk.2.1; have h2 := HLT1.out; omega)) HN2.out.below.size); have HSP := Aside0.mk hspec; have HLL := Aside0.mk hlen; have HM3 := Aside0.mk (HM2.out.below hb2); have HN3 := Aside0.mk (HN2.out.move hb2); clear hL hspec hlen hb2))
      have hlmax : L.length ≤ 65536 := HLL.out
      go_loopw [31] (fun u31 wr => ∃ (k : Nat) (fa : PK → Option Int) (na : Nat), k ≤ L.length ∧ u31 = .int .i64 k ∧ Aside0 (Nums w wr gm f n d.acts) ∧ Aside0 (MapP wr ga fa na) ∧ Aside0 (Alls d.acts (L.take k) fa) ∧ Aside0 (Kd.R k28 28 wr w.heap.size (fun b => b ≠ ga) (.slice AL L.length cL) L)) (fun u31 _ => L.length - (intOf u31).toNat)
      case atStart => exact ⟨0, _, _, Nat.zero_le _, rfl, HN3, HM3, ⟨Alls.none_ _⟩, HL2⟩
      case round =>
        obtain ⟨k, fa, na, hk, rfl, HN4, HM4, HF4, HL4⟩ := hrel
        by_cases hlt : k < L.length
        · have hCL := (Kd.R_reads' HL4.out).2.2
          obtain ⟨ad, ea, hx0, hx1, hx2⟩ := at_T28 hCL (k : Int) (by omega) (by omega)
          subst ea
          have hget : rd_T28 L (k : Int) = L[k] := by simp [rd_T28, hlt]
          simp only [hget, Int.toNat_natCast] at hx0 hx1 hx2
          have htk : L.take (k + 1) = L.take k ++ [L[k]] := List.take_succ_eq_append_getElem hlt
          have hmem : L[k] ∈ L := List.getElem_mem hlt
          obtain ⟨t, htt⟩ : ∃ t, t = L[k] := ⟨_, rfl⟩
          rw [← htt] at hx0 hx1 hx2 htk hmem
          have hsp := (HSP.out t).1 hmem
          have hok0 : okS t.f0 := by
            obtain ⟨y, hy, he⟩ := hsp.1
            rw [← he]; exact HD.out.subs y hy
          have hin : t.f1 ∈ d.objs ∧ t.f2 ∈ d.acts := by
            have h2 := hsp.2
            unfold PolD.allowB at h2
            simp only [Bool.and_eq_true, decide_eq_true_eq] at h2
            exact ⟨h2.2.1, h2.2.2.1⟩
          have HOKP := Aside0.mk (show okP (t.f0, t.f1) from ⟨hok0, HD.out.objs _ hin.1⟩)
          have HOKA := Aside0.mk (HD.out.acts _ hin.2)
          have HTK := Aside0.mk htk
          have hcw : ∀ (j : Nat) (v : Value), ([.string t.f0, .string t.f1, .string t.f2] : List Value)[j]? = some v → wr.cell? ((ad.add (k * 3)).add j) = some v := by
            intro j v hj
            have hj3 : j < 3 := (List.getElem?_eq_some_iff.1 hj).1
            have : j = 0 ∨ j = 1 ∨ j = 2 := by omega
            rcases this with rfl | rfl | rfl
            · obtain rfl : Value.string t.f0 = v := by simpa using hj
              rw [Addr.add_zero']; exact hx0
            · obtain rfl : Value.string t.f1 = v := by simpa using hj
              rw [add_add, add_field _ _ 1 (by omega)]; exact hx1
            · obtain rfl : Value.string t.f2 = v := by simpa using hj
              rw [add_add, add_field _ _ 2 (by omega)]; exact hx2
          have HCW := Aside0.mk hcw
          obtain ⟨m, hfa, hm16, hbits⟩ := HF4.out.ok (t.f0, t.f1)
          have HFA := Aside0.mk hfa
          have HM16 := Aside0.mk hm16
          obtain ⟨Ax, cx, hax, hcx, hlx⟩ := HN4.out.read t.f2
          have HAX := Aside0.mk hax
          have HCX0 := Aside0.mk hcx
          have HLX := Aside0.mk hlx
          have c0' : (k : Int) < L.length := by omega
          clear hCL hx0 hx1 hx2 hget htk hmem hsp hok0 hin hcw hfa hm16 hbits hax hcx hlx htt
          obtain ⟨ns, hns⟩ : ∃ ns, ns = numsAt d.acts t.f2 := ⟨_, rfl⟩
          rw [← hns] at HAX HCX0 HLX
          have HNS := Aside0.mk hns
          clear hns
          go_upto_region 11 with (first | ((with_reducible refine gate_dst (N := 34) rfl ?_); refine wpList_load_at rfl 28 (.tmp 33) rfl (ad.add (k * 3)) ?hx [.string t.f0, .string t.f1, .string t.f2] HCW.out _ Try.underlying28 rfl i28 ?_; (case hx => rfl); refine wpList_alloc_store rfl rfl 28 8 (.tmp 34) rfl rfl rfl #[.string ⟨#[]⟩, .string ⟨#[]⟩, .string ⟨#[]⟩] #[.string t.f0, .string t.f1, .string t.f2] _ (z28v _) rfl i28 rfl (by simp [Value.oneCell']) ?hy ?hp ?_; (case hy => rfl); (case hp => rfl)))
          (try simp only [Act.put])
          have hb2 : Below wr.heap.size wr ((wr.alloc (.cells #[.string t.f0, .string t.f1, .string t.f2] 28)).drew) := below_drew (below_alloc (Below.refl _ _) _)
          have hS2 : Stays ((wr.alloc (.cells #[.string t.f0, .string t.f1, .string t.f2] 28)).drew) wr.heap.size #[.string t.f0, .string t.f1, .string t.f2] 28 := heap_alloc_new wr _
          obtain ⟨W3, hW3⟩ : ∃ W3, W3 = ((wr.alloc (.cells #[.string t.f0, .string t.f1, .string t.f2] 28)).drew) := ⟨_, rfl⟩
          obtain ⟨g8, hg8⟩ : ∃ g8, g8 = wr.heap.size := ⟨_, rfl⟩
          have HN3 := Aside0.mk (HN4.out.move hb2)
          have HM3 := Aside0.mk (HM4.out.below hb2)
          have HS3 := Aside0.mk hS2
          have HL3 := Aside0.mk (Kd.R_below HL4.out hb2)
          have HCX := Aside0.mk (Kd.C_below HCX0.out hb2)
          rw [← hW3] at HN3 HM3 HS3 HL3 HCX
          rw [← hg8] at HS3 ⊢
          have hfa : (fa (t.f0, t.f1)).getD 0 = ((m : Nat) : Int) := HFA.out
          refine start_ (n := 16) (S := fun w' => w'.cell? ⟨g8, 0, none⟩ = some (.string t.f0) ∧ w'.cell? ⟨g8, 1, none⟩ = some (.string t.f1) ∧ w'.cell? ⟨g8, 2, none⟩ = some (.string t.f2) ∧ (Instr.lookup 79 (.map (some ga)) (.agg #[.string t.f0, .string t.f1]) false).run Try.prog w' = .ok (.int .u16 ((m : Nat) : Int)) w' ∧ (Instr.lookup 109 (.map (some gm)) (.string t.f2) false).run Try.prog w' = .ok (.slice Ax ns.length cx) w') (ds := [15]) #[false, false, false, false, false, false, false, false, false, false, false, false, false, false, false, false] (by kernel_rfl) rfl rfl (by rw [hg8, ← hW3, ← hg8]; exact ⟨HS3.out.cell 0, HS3.out.cell 1, HS3.out.cell 2, by have h0 := pair_look HM3.out (p := (t.f0, t.f1)) HOKP.out; rw [hfa] at h0; exact h0, by have h0 := HN3.out.lk HOKA.out; rw [HAX.out] at h0; exact h0⟩) (fun hHeld => ?_)
          rw [hg8, ← hW3, ← hg8] at hHeld
          rw [hg8, ← hW3, ← hg8]
          clear hb2 hS2 hW3 hg8 hfa HN4 HM4 HL4 HCX0
          refine pure_ (i := 0) (N := some 35) (v := ?_) (a' := ?_) #[true, false, false, false, false, false, false, false, false, false, false, false, false, false, false, false] rfl rfl (by kernel_rfl) (fun _ _ _ h => h) (Or.inl ⟨by rfl, ?_⟩) ?_ ?_
          rotate_left
          · intro w'
            go_simp
            with_reducible rfl
          rotate_left
          · simp only [Act.put, List.setIfInBounds_toArray, List.set_cons_zero, List.set_cons_succ]
            rfl
          refine pure_ (i := 1) (N := some 36) (v := ?_) (a' := ?_) #[true, true, false, false, false, false, false, false, false, false, false, false, false, false, false, false] rfl rfl (by kernel_rfl) (fun _ _ _ h => h) (Or.inl ⟨by rfl, ?_⟩) ?_ ?_
          rotate_left
          · intro w'
            go_simp
            with_reducible rfl
          rotate_left
          · simp only [Act.put, List.setIfInBounds_toArray, List.set_cons_zero, List.set_cons_succ]
            rfl
          refine take_ (i := 2) (N := some 37) (v := ?_) (a' := ?_) #[true, true, true, false, false, false, false, false, false, false, false, false, false, false, false, false] rfl rfl (by kernel_rfl) (fun _ _ _ h => h) (Or.inl ⟨by rfl, ?_⟩) hHeld ?_ ?_
          rotate_left
          · rintro w' ⟨s0, s1, s2, s3, s4⟩
            go_simp
            with_reducible rfl
          rotate_left
          · simp only [Act.put, List.setIfInBounds_toArray, List.set_cons_zero, List.set_cons_succ]
            rfl
          refine pure_ (i := 3) (N := some 38) (v := ?_) (a' := ?_) #[true, true, true, true, false, false, false, false, false, false, false, false, false, false, false, false] rfl rfl (by kernel_rfl) (fun _ _ _ h => h) (Or.inl ⟨by rfl, ?_⟩) ?_ ?_
          rotate_left
          · intro w'
            go_simp
            with_reducible rfl
          rotate_left
          · simp only [Act.put, List.setIfInBounds_toArray, List.set_cons_zero, List.set_cons_succ]
            rfl
          refine take_ (i := 4) (N := some 39) (v := ?_) (a' := ?_) #[true, true, true, true, true, false, false, false, false, false, false, false, false, false, false, false] rfl rfl (by kernel_rfl) (fun _ _ _ h => h) (Or.inl ⟨by rfl, ?_⟩) hHeld ?_ ?_
          rotate_left
          · rintro w' ⟨s0, s1, s2, s3, s4⟩
            go_simp
            with_reducible rfl
          rotate_left
          · simp only [Act.put, List.setIfInBounds_toArray, List.set_cons_zero, List.set_cons_succ]
            rfl
          refine pure_ (i := 5) (N := some 40) (v := ?_) (a' := ?_) #[true, true, true, true, true, true, false, false, false, false, false, false, false, false, false, false] rfl rfl (by kernel_rfl) (fun _ _ _ h => h) (Or.inl ⟨by rfl, ?_⟩) ?_ ?_
          rotate_left
          · intro w'
            go_simp
            with_reducible rfl
          rotate_left
          · simp only [Act.put, List.setIfInBounds_toArray, List.set_cons_zero, List.set_cons_succ]
            rfl
          refine take_ (i := 6) (N := some 41) (v := ?_) (a' := ?_) #[true, true, true, true, true, true, true, false, false, false, false, false, false, false, false, false] rfl rfl (by kernel_rfl) (fun _ _ _ h => h) (Or.inl ⟨by rfl, ?_⟩) hHeld ?_ ?_
          rotate_left
          · rintro w' ⟨s0, s1, s2, s3, s4⟩
            simp [execOp, Act.eval, s3]
            rfl
          rotate_left
          · simp only [Act.put, List.setIfInBounds_toArray, List.set_cons_zero, List.set_cons_succ]
            rfl
          refine pure_ (i := 7) (N := some 42) (v := ?_) (a' := ?_) #[true, true, true, true, true, true, true, true, false, false, false, false, false, false, false, false] rfl rfl (by kernel_rfl) (fun _ _ _ h => h) (Or.inl ⟨by rfl, ?_⟩) ?_ ?_
          rotate_left
          · intro w'
            go_simp
            with_reducible rfl
          rotate_left
          · simp only [Act.put, List.setIfInBounds_toArray, List.set_cons_zero, List.set_cons_succ]
            rfl
          refine pure_ (i := 8) (N := some 43) (v := ?_) (a' := ?_) #[true, true, true, true, true, true, true, true, true, false, false, false, false, false, false, false] rfl rfl (by kernel_rfl) (fun _ _ _ h => h) (Or.inl ⟨by rfl, ?_⟩) ?_ ?_
          rotate_left
          · intro w'
            go_simp
            with_reducible rfl
          rotate_left
          · simp only [Act.put, List.setIfInBounds_toArray, List.set_cons_zero, List.set_cons_succ]
            rfl
          refine take_ (i := 9) (N := some 44) (v := ?_) (a' := ?_) #[true, true, true, true, true, true, true, true, true, true, false, false, false, false, false, false] rfl rfl (by kernel_rfl) (fun _ _ _ h => h) (Or.inl ⟨by rfl, ?_⟩) hHeld ?_ ?_
          rotate_left
          · rintro w' ⟨s0, s1, s2, s3, s4⟩
            go_simp
            with_reducible rfl
          rotate_left
          · simp only [Act.put, List.setIfInBounds_toArray, List.set_cons_zero, List.set_cons_succ]
            rfl
          refine take_ (i := 10) (N := some 45) (v := ?_) (a' := ?_) #[true, true, true, true, true, true, true, true, true, true, true, false, false, false, false, false] rfl rfl (by kernel_rfl) (fun _ _ _ h => h) (Or.inl ⟨by rfl, ?_⟩) hHeld ?_ ?_
          rotate_left
          · rintro w' ⟨s0, s1, s2, s3, s4⟩
            simp [execOp, Act.eval, s4]
            rfl
          rotate_left
          · simp only [Act.put, List.setIfInBounds_toArray, List.set_cons_zero, List.set_cons_succ]
            rfl
          refine one_ (i := 11) (N := some 46) #[true, true, true, true, true, true, true, true, true, true, true, true, false, false, false, false] rfl rfl (by kernel_rfl) (by decide) (fun K hK => ?_)
          refine goes_ Try.func70 (by kernel_rfl) rfl #[.slice Ax ns.length cx] (by rfl) rfl rfl (by (try simp only [List.map_toArray, List.map_cons, List.map_nil]); first | done | rfl) ?_
          refine (mask_go Ax cx ns _ HCX.out HLX.out).mono ?_
          rintro e w8 ⟨rfl, ⟨nd, rfl⟩⟩
          refine ⟨_, rfl, ?_⟩
          have HN4 := Aside0.mk (HN3.out.move (pw_below_drewN (Below.refl _ _) nd))
          have HM4 := Aside0.mk (HM3.out.drewN nd)
          have HS4 := Aside0.mk (HS3.out.below (pw_below_drewN (Below.refl _ _) nd))
          have HL4 := Aside0.mk (Kd.R_below HL3.out (pw_below_drewN (Below.refl _ _) nd))
          obtain ⟨W4, hW4⟩ : ∃ W4, W4 = W3.drewN nd := ⟨_, rfl⟩
          rw [← hW4] at HN4 HM4 HS4 HL4 ⊢
          clear hW4
          have hfa : (fa (t.f0, t.f1)).getD 0 = ((m : Nat) : Int) := HFA.out
          refine hK.out _ _ ⟨HS4.out.cell 0, HS4.out.cell 1, HS4.out.cell 2, by have h0 := pair_look HM4.out (p := (t.f0, t.f1)) HOKP.out; rw [hfa] at h0; exact h0, by have h0 := HN4.out.lk HOKA.out; rw [HAX.out] at h0; exact h0⟩ (fun hHeld => ?_)
          clear hK K hfa
          refine norm_ (a' := ?_) ?_ ?_
          rotate_left
          · show Act.put _ (some 46) _ = _
            simp only [Act.put, List.setIfInBounds_toArray, List.set_cons_zero, List.set_cons_succ]
            rfl
          refine pure_ (i := 12) (N := some 47) (v := ?_) (a' := ?_) #[true, true, true, true, true, true, true, true, true, true, true, true, true, false, false, false] rfl rfl (by kernel_rfl) (fun _ _ _ h => h) (Or.inl ⟨by rfl, ?_⟩) ?_ ?_
          rotate_left
          · intro w'
            go_simp
            with_reducible rfl
          rotate_left
          · simp only [Act.put, List.setIfInBounds_toArray, List.set_cons_zero, List.set_cons_succ]
            rfl
          obtain ⟨w5, stamp, hrun, hM5, hg5, hst⟩ := HM4.out.entry pair_key Try.underlying79 (zv := 0) (zero31 W4) (k := (t.f0, t.f1)) HOKP.out
          have hfa : (fa (t.f0, t.f1)).getD 0 = ((m : Nat) : Int) := HFA.out
          rw [hfa] at hrun hM5
          refine one_ (i := 13) (N := some 48) #[true, true, true, true, true, true, true, true, true, true, true, true, true, true, false, false] rfl rfl (by kernel_rfl) (by decide) (fun K hK => ?_)
          refine GDiffer.step_run (w' := w5) (v := .tuple #[.int .u16 ((m : Nat) : Int), .int .i64 stamp]) rfl rfl ?_ ?_
          · have hrun' : (Instr.mapEntry 79 (.map (some ga)) (.agg #[.string t.f0, .string t.f1])).run Try.prog W4 = .ok (.tuple #[.int .u16 ((m : Nat) : Int), .int .i64 stamp]) w5 := hrun
            simp [execOp, Act.eval, hrun']
          have hS5 : Stays w5 g8 #[.string t.f0, .string t.f1, .string t.f2] 28 := (hg5.block _ (Array.getElem?_eq_some_iff.1 HS4.out).1 (fun e => map_ne HM4.out HS4.out (Option.some.inj e))).trans HS4.out
          have hN5 := HN4.out.beside HM4.out HGA.out HNE.out hg5
          refine hK.out _ _ ⟨hS5.cell 0, hS5.cell 1, hS5.cell 2, by have h0 := pair_look hM5 (p := (t.f0, t.f1)) HOKP.out; rw [upd_same, Option.getD_some] at h0; exact h0, by have h0 := hN5.lk HOKA.out; rw [HAX.out] at h0; exact h0⟩ (fun hHeld => ?_)
          clear hK K hS5 hN5
          refine norm_ (a' := ?_) ?_ ?_
          rotate_left
          · show Act.put _ (some 48) _ = _
            simp only [Act.put, List.setIfInBounds_toArray, List.set_cons_zero, List.set_cons_succ]
            rfl
          refine pure_ (i := 14) (N := some 49) (v := ?_) (a' := ?_) #[true, true, true, true, true, true, true, true, true, true, true, true, true, true, true, false] rfl rfl (by kernel_rfl) (fun _ _ _ h => h) (Or.inl ⟨by rfl, ?_⟩) ?_ ?_
          rotate_left
          · intro w'
            go_simp
            with_reducible rfl
          rotate_left
          · simp only [Act.put, List.setIfInBounds_toArray, List.set_cons_zero, List.set_cons_succ]
            rfl
          refine last_ (i := 15) (N := none) #[true, true, true, true, true, true, true, true, true, true, true, true, true, true, true, true] rfl rfl (by kernel_rfl) (by decide) (fun K hK => ?_)
          obtain ⟨w6, hrun6, hM6, hg6⟩ := hst (Go.bits .or .u16 ((m : Nat) : Int) ((orBits ns : Nat) : Int))
          refine GDiffer.step_skip (w' := w6) rfl rfl ?_ ?_
          · simp [execOp, Act.eval, hrun6]
          refine hK.out _ _ ?_
          clear hK K
          refine done_ (by kernel_rfl) ?_
          have hor := or_both m (orBits ns) HM16.out (orBits_lt ns)
          rw [hor] at hM6
          have HN6 := Aside0.mk (HN4.out.beside HM4.out HGA.out HNE.out hg6)
          have HM6 := Aside0.mk hM6
          have HL6 := Aside0.mk (Kd.R_grown HL4.out hg6 (fun k hk e => hk (Option.some.inj e)))
          have hF6 := HF4.out.put t m HFA.out
          rw [← HNS.out, ← HTK.out] at hF6
          have HF6 := Aside0.mk hF6
          clear hM6 hg6 hrun6 hst hM5 hg5 hrun hHeld hor hF6 hfa
          go_wp2
          go_roundw
          case rel => exact ⟨k + 1, _, _, by omega, by go_num, HN6, HM6, HF6, HL6⟩
          case measure => simp [intOf]; omega
        · have hkk : k = L.length := by omega
          subst hkk
          have hF := HF4.out
          rw [List.take_length] at hF
          have HF5 := Aside0.mk hF
          clear hF
          go_wp2
          go_ret
          exact ⟨_, _, _, L, rfl, HM4.out, HF5.out, HSP.out, HGA.out, HN4.out.below⟩
end Go.Proofs.Ythaiodklfoegiaa.CMasks

/- slices.Clone of names. -/
namespace Go.Proofs.Ythaiodklfoegiaa.CClone
open Go.RowKit Go.Proofs.YthaiodklfoegiaaW.PrintWords Go.Proofs.YthaiodklfoegiaaW.PrintLast Go.Proofs.YthaiodklfoegiaaW.PrintMore Go.Proofs.Ythaiodklfoegiaa.MLines Go.Proofs.Ythaiodklfoegiaa.MSide Go.Proofs.Ythaiodklfoegiaa.MPol Go.Maps
open Go.Proofs.Ythaiodklfoegiaa Go.Proofs.Ythaiodklfoegiaa.PG

set_option maxHeartbeats 1000000 in
set_option maxRecDepth 100000 in
theorem clone_calls (A : Option Addr) (c : Nat) (l : List ByteArray) (w : World) (hC : Kd.C Kd.string w A l.length l) (hl : l.length ≤ 8796093022207) :
    Calls Try.prog 47 #[.slice A l.length c] w fun e w' => ∃ v, e = .returned v ∧ Kd.R Kd.string 9 w' w.heap.size (fun _ => True) v l ∧ Below w.heap.size w w' := by
  have HC := Aside0.mk hC
  have HL := Aside0.mk hl
  have hmax : l.length ≤ 9223372036854775807 := hC.2.1
  clear hC hl
  cases A with
  | none =>
    have h0 : l = [] := by
      have := HC.out.2.2
      cases l with
      | nil => rfl
      | cons x r => obtain ⟨ad, h, _⟩ := this (by simp); cases h
    subst h0
    have he := fun w : World => Lib.run_eql_slice_nil (P := Try.prog) w 22 9 none 0 c 0 0 Try.underlying22
    go_enter Try.func47, Try.ntmps47
    go_wp2
    go_ret
    exact ⟨_, rfl, Kd.R_nil _ _ _ _ _, Below.refl _ _⟩
  | some ad =>
    have he := fun w : World => Lib.run_eql_slice_nil (P := Try.prog) w 22 9 (some ad) l.length c 0 0 Try.underlying22
    go_enter Try.func47, Try.ntmps47
    go_upto_region 3 with fail
    clear he
    have hlim : ((([] : List ByteArray)).length + l.length) * 16 ≤ 140737488355328 := by have := HL.out; simp; omega
    have HLIM := Aside0.mk hlim
    clear hlim
    have hR5 : Kd.R Kd.string 9 (w.alloc (.cells #[] 9)) w.heap.size (fun _ => True) (.slice (some ⟨w.heap.size, 0, none⟩) 0 0) [] := by
      have h0 := own_lit_of (enc := Value.string) w w.heap.size 9 [] (Nat.le_refl _) (by simp)
      exact Kd.R_of_own (h1 := fun _ => rfl) h0 (fun _ _ => trivial)
    have HR5 := Aside0.mk hR5
    have HB5 := Aside0.mk (below_alloc (Below.refl _ w) (.cells #[] 9))
    clear hR5
    go_wp2_with (first | ((with_reducible refine gate_builtin (b := .append) (xs := #[.tmp 5, .tmp 6]) rfl ?_); at_builtin; refine Kd.R_append_row Value.string ⟨#[]⟩ (w0 := w) w.heap.size rfl (.tmp 5) (.tmp 6) 22 9 (.string ⟨#[]⟩) 16 rfl Try.underlying22 info9 rfl (by decide) (.slice (some ⟨w.heap.size, 0, none⟩) 0 0) [] l (some ad) l.length c (fun _ => True) rfl rfl (fun _ _ => trivial) HR5.out (Kd.C_below HC.out HB5.out) HB5.out HB5.out.size HLIM.out ?_; intro v7 w7 hR7 hB7 hg7 hat7; have HR7 := Aside0.mk hR7; have HB7 := Aside0.mk hB7; clear hR7 hB7 hg7 hat7))
    obtain ⟨A7, c7, rfl⟩ := Kd.R_slice HR7.out
    go_ret
    exact ⟨_, rfl, HR7.out, HB7.out⟩
end Go.Proofs.Ythaiodklfoegiaa.CClone

/- What lies still but in some blocks; a matrix filled step by step; a policy's masks. -/
namespace Go.Proofs.Ythaiodklfoegiaa.CSame
open Go.RowKit Go.Proofs.YthaiodklfoegiaaW.PrintWords Go.Proofs.YthaiodklfoegiaaW.PrintLast Go.Proofs.YthaiodklfoegiaaW.PrintMore Go.Proofs.Ythaiodklfoegiaa.BMap Go.Proofs.Ythaiodklfoegiaa.BRow Go.Proofs.Ythaiodklfoegiaa.GDiffer Go.Proofs.Ythaiodklfoegiaa.GBlk Go.Proofs.Ythaiodklfoegiaa.CPure Go.Proofs.Ythaiodklfoegiaa.CBits Go.Proofs.Ythaiodklfoegiaa.CClasses Go.Proofs.Ythaiodklfoegiaa.CMasks Go.Proofs.Ythaiodklfoegiaa.MLines Go.Proofs.Ythaiodklfoegiaa.MSide Go.Proofs.Ythaiodklfoegiaa.MPol Go.Maps
open Go.Proofs.Ythaiodklfoegiaa Go.Proofs.Ythaiodklfoegiaa.PG

/-- wr is W, but for new blocks and those of S. -/
structure Same (S : Nat → Prop) (W wr : World) : Prop where
  os : wr.os = W.os
  tape : wr.tape = W.tape
  output : wr.output = W.output
  size : W.heap.size ≤ wr.heap.size
  block : ∀ b, b < W.heap.size → ¬ S b → wr.heap[b]? = W.heap[b]?
namespace Same
variable {S : Nat → Prop} {w W wr w1 : World}
theorem refl (S : Nat → Prop) (W : World) : Same S W W := ⟨rfl, rfl, rfl, Nat.le_refl _, fun _ _ _ => rfl⟩
theorem of_below (h : Below W.heap.size W wr) : Same S W wr := ⟨h.os, h.tape, h.output, h.size, fun b hb _ => h.block b hb⟩
theorem move (h : Same S W wr) (hb : Below wr.heap.size wr w1) : Same S W w1 :=
  ⟨hb.os.trans h.os, hb.tape.trans h.tape, hb.output.trans h.output, Nat.le_trans h.size hb.size, fun b hl hs => (hb.block b (Nat.lt_of_lt_of_le hl h.size)).trans (h.block b hl hs)⟩
theorem grown (h : Same S W wr) {row : Option Nat} (hg : wr.grownBy w1 row) (hr : ∀ k, row = some k → S k ∨ W.heap.size ≤ k) : Same S W w1 :=
  ⟨hg.os.trans h.os, hg.tape.trans h.tape, hg.output.trans h.output, Nat.le_trans h.size hg.size, fun b hl hs => (hg.block b (Nat.lt_of_lt_of_le hl h.size) (fun e => by
    rcases hr b e.symm with h1 | h1
    · exact hs h1
    · omega)).trans (h.block b hl hs)⟩
theorem set (h : Same S W wr) {a : Addr} (ha : S a.block ∨ W.heap.size ≤ a.block) (v : Value) : Same S W (wr.setCell a v) :=
  ⟨h.os, h.tape, h.output, by simpa [World.setCell] using h.size, fun b hl hs => (heap_setCell_other wr a b v (fun e => by
    rcases ha with h1 | h1
    · exact hs (e ▸ h1)
    · omega)).trans (h.block b hl hs)⟩
theorem drew (h : Same S W wr) : Same S W wr.drew := ⟨h.os, h.tape, h.output, h.size, h.block⟩
theorem stays (h : Same S W wr) {g t : Nat} {cs : Array Value} (hs : Stays W g cs t) (hn : ¬ S g) : Stays wr g cs t := (h.block g (Array.getElem?_eq_some_iff.1 hs).1 hn).trans hs
theorem toR (h : Same S W wr) {α : Type} {d : Kd α} {e base : Nat} {ok : Nat → Prop} {v : Value} {xs : List α} (hR : d.R e W base ok v xs) (hok : ∀ k, ok k → ¬ S k) : d.R e wr base ok v xs := Kd.R_step hR (fun k ho hk => h.block k hk (hok k ho))
theorem map (h : Same S W wr) {κ β : Type} {kenc : κ → Value} {venc : β → Value} {ok : κ → Prop} {b n : Nat} {f : κ → Option β} (hM : MapF kenc venc ok W b f n) (hn : ¬ S b) : MapF kenc venc ok wr b f n := hM.move (h.block b hM.lt hn)
theorem blk (h : Same S W wr) {g n : Nat} {F : Nat → Nat → Int} (hB : Blk W g n F) (hn : ¬ S g) : Blk wr g n F := World.rowIs.of_block hB (h.block g hB.lt hn)
theorem below (h : Same S W wr) (hb : Below w.heap.size w W) (hS : ∀ k, S k → w.heap.size ≤ k) : Below w.heap.size w wr :=
  ⟨h.os.trans hb.os, h.tape.trans hb.tape, h.output.trans hb.output, Nat.le_trans hb.size h.size, fun b hl => (h.block b (Nat.lt_of_lt_of_le hl hb.size) (fun e => by have := hS b e; omega)).trans (hb.block b hl)⟩
end Same
theorem stays_set {w : World} {g t : Nat} {cs : Array Value} (h : Stays w g cs t) (j : Nat) (v : Value) : Stays (w.setCell ⟨g, j, none⟩ v) g (cs.setIfInBounds j v) t := heap_setCell_same w g j cs t v h
theorem stays_far {w : World} {g t : Nat} {cs : Array Value} (h : Stays w g cs t) {a : Addr} (ha : g ≠ a.block) (v : Value) : Stays (w.setCell a v) g cs t := (heap_setCell_other w a g v ha).trans h

theorem R_setCells {α : Type} {dk : Kd α} {e base g t : Nat} {ok : Nat → Prop} {w : World} {v : Value} {xs : List α} {cs : Array Value} (h : dk.R e w base ok v xs) (hb : Stays w g cs t) (ht : ∀ q, q ∈ e :: dk.E → q ≠ t) (l : List Value) : dk.R e (w.setCells g 0 l) base ok v xs :=
  Kd.R_mono (Kd.R_step (Kd.R_types h hb ht) (fun _ ho _ => setCells_far l 0 _ ho.2)) (fun _ hk => hk.1)
theorem R_set {α : Type} {dk : Kd α} {e base g t : Nat} {ok : Nat → Prop} {w : World} {v : Value} {xs : List α} {cs : Array Value} (h : dk.R e w base ok v xs) (hb : Stays w g cs t) (ht : ∀ q, q ∈ e :: dk.E → q ≠ t) (j : Nat) (u : Value) : dk.R e (w.setCell ⟨g, j, none⟩ u) base ok v xs := Kd.R_set h hb ht j u

/-! ### Filled step by step -/
def prt (M : Nat → Nat → Int) (i j a b : Nat) : Int := if a < i ∨ (a = i ∧ b < j) then M a b else 0
theorem prt_zero (M : Nat → Nat → Int) (a b : Nat) : prt M 0 0 a b = 0 := by unfold prt; rw [if_neg (by omega)]
theorem prt_next (M : Nat → Nat → Int) (i j a b : Nat) : (if a = i ∧ b = j then M i j else prt M i j a b) = prt M i (j + 1) a b := by
  unfold prt
  by_cases h : a = i ∧ b = j
  · obtain ⟨rfl, rfl⟩ := h
    rw [if_pos ⟨rfl, rfl⟩, if_pos (by omega)]
  · rw [if_neg h]
    by_cases h2 : a < i ∨ a = i ∧ b < j
    · rw [if_pos h2, if_pos (by omega)]
    · rw [if_neg h2, if_neg (by omega)]
theorem prt_row (M : Nat → Nat → Int) (m i a b : Nat) : prt (fill m M) i m a b = prt (fill m M) (i + 1) 0 a b := by
  unfold prt
  by_cases h : a < i
  · rw [if_pos (Or.inl h), if_pos (Or.inl (by omega))]
  · by_cases e : a = i
    · rw [if_pos (c := a < i + 1 ∨ _) (Or.inl (by omega))]
      by_cases h2 : b < m
      · rw [if_pos (Or.inr ⟨e, h2⟩)]
      · rw [if_neg (by omega)]
        unfold fill
        rw [if_neg h2]
    · rw [if_neg (by omega), if_neg (by omega)]
theorem prt_all (M : Nat → Nat → Int) (n a b : Nat) (ha : a < n) : prt M n 0 a b = M a b := by unfold prt; rw [if_pos (by omega)]
theorem prt_cols (M : Nat → Nat → Int) (n m b a : Nat) (hb : b < m) : prt (fill m M) n 0 a b = fill n (fun j i => M i j) b a := by
  unfold prt fill
  by_cases h : a < n
  · rw [if_pos (by omega), if_pos hb, if_pos h]
  · rw [if_neg (by omega), if_neg h]
theorem lines_of (n m : Nat) (M : Nat → Nat → Int) : lines n m M = linesOf n (fill m M) := rfl

/-! ### A policy's masks -/
noncomputable def maskD (d : PolD) (s o : ByteArray) : Nat := maskN (fun k => match d.acts[k]? with | some a => d.allowB ⟨s, o, a⟩ | none => false) d.acts.length
theorem maskD_lt (d : PolD) (s o : ByteArray) (h : d.acts.length ≤ 16) : maskD d s o < 65536 := by
  have h1 := maskN_lt (fun k => match d.acts[k]? with | some a => d.allowB ⟨s, o, a⟩ | none => false) d.acts.length
  have h2 : 2 ^ d.acts.length ≤ 2 ^ 16 := Nat.pow_le_pow_right (by omega) h
  unfold maskD
  omega
theorem maskD_bit (d : PolD) (s o : ByteArray) (k : Nat) (hk : k < d.acts.length) : (maskD d s o).testBit k = d.allowB ⟨s, o, d.acts[k]⟩ := by
  unfold maskD
  rw [maskN_bit]
  simp [hk]
theorem alls_mask {d : PolD} {L : List S28} {f : PK → Option Int} (h : Alls d.acts L f) (hL : ∀ t, t ∈ L ↔ ((∃ y ∈ d.subs, y.f0 = t.f0) ∧ d.allowB t = true)) (ha : d.acts.length ≤ 16) {s : ByteArray} (hs : ∃ y ∈ d.subs, y.f0 = s) (o : ByteArray) : (f (s, o)).getD 0 = ((maskD d s o : Nat) : Int) := by
  obtain ⟨m, h1, _, h3⟩ := h.ok (s, o)
  rw [h1]
  congr 1
  refine Nat.eq_of_testBit_eq fun k => ?_
  rw [Bool.eq_iff_iff, h3]
  unfold maskD
  rw [maskN_bit]
  constructor
  · rintro ⟨_, a, h5, h6⟩
    have hk : k < d.acts.length := (List.getElem?_eq_some_iff.1 h5).1
    rw [h5]
    simp [hk, ((hL _).1 h6).2]
  · intro h4
    rw [Bool.and_eq_true, decide_eq_true_eq] at h4
    obtain ⟨h5, h6⟩ := h4
    rw [List.getElem?_eq_getElem h5] at h6
    exact ⟨by omega, _, List.getElem?_eq_getElem h5, (hL _).2 ⟨hs, h6⟩⟩
noncomputable def matD (d : PolD) (i j : Nat) : Int := ((maskD d ((d.subs.map (·.f0)).getD i ⟨#[]⟩) (d.objs.getD j ⟨#[]⟩) : Nat) : Int)
theorem u16_wf {n : Nat} (h : n < 65536) : (Lit.int .u16 ((n : Nat) : Int)).wf = true := by
  simp [Lit.wf, IntKind.min, IntKind.max, IntKind.signed, IntKind.bits]
  omega
theorem matD_u16 (d : PolD) (ha : d.acts.length ≤ 16) (i j : Nat) : (Lit.int .u16 (matD d i j)).wf = true := u16_wf (maskD_lt d _ _ ha)
theorem fill_u16 {m : Nat} {M : Nat → Nat → Int} (h : ∀ i j, (Lit.int .u16 (M i j)).wf = true) (i j : Nat) : (Lit.int .u16 (fill m M i j)).wf = true := by
  unfold fill
  split
  · exact h i j
  · decide
end Go.Proofs.Ythaiodklfoegiaa.CSame

/- graph.Valid, walked. -/
namespace Go.Proofs.Ythaiodklfoegiaa.GValid
open Go.RowKit Go.Proofs.YthaiodklfoegiaaW.PrintWords Go.Proofs.YthaiodklfoegiaaW.PrintLast Go.Proofs.YthaiodklfoegiaaW.PrintMore Go.Proofs.Ythaiodklfoegiaa.BMap Go.Proofs.Ythaiodklfoegiaa.BRow Go.Proofs.Ythaiodklfoegiaa.GDiffer Go.Proofs.Ythaiodklfoegiaa.VPure Go.Maps
open Go.Proofs.Ythaiodklfoegiaa

/-- A graph in a call's arguments. -/
structure G where
  A0 : Option Addr
  c0 : Nat
  la : List ByteArray
  A1 : Option Addr
  c1 : Nat
  ls : List ByteArray
  A2 : Option Addr
  c2 : Nat
  lo : List ByteArray
  A3 : Option Addr
  c3 : Nat
  of : List Int
  A4 : Option Addr
  c4 : Nat
  on : List Int
  A5 : Option Addr
  c5 : Nat
  ms : List (List Int)
def G.val (g : G) : Value := .agg #[.slice g.A0 g.la.length g.c0, .slice g.A1 g.ls.length g.c1, .slice g.A2 g.lo.length g.c2, .slice g.A3 g.of.length g.c3, .slice g.A4 g.on.length g.c4, .slice g.A5 g.ms.length g.c5]
structure G.In (g : G) (w : World) : Prop where
  h0 : Kd.C Kd.string w g.A0 g.la.length g.la
  h1 : Kd.C Kd.string w g.A1 g.ls.length g.ls
  h2 : Kd.C Kd.string w g.A2 g.lo.length g.lo
  h3 : Kd.C (Kd.int .i64) w g.A3 g.of.length g.of
  h4 : Kd.C (Kd.int .i64) w g.A4 g.on.length g.on
  h5 : Kd.C (Kd.slice 31 (Kd.int .u16)) w g.A5 g.ms.length g.ms
  l0 : g.la.length ≤ g.c0
  l1 : g.ls.length ≤ g.c1
  l2 : g.lo.length ≤ g.c2
  l3 : g.of.length ≤ g.c3
  l4 : g.on.length ≤ g.c4
  l5 : g.ms.length ≤ g.c5
  u16 : ∀ row ∈ g.ms, ∀ x ∈ row, (Lit.int .u16 x).wf = true
theorem G.In.below {g : G} {w w1 : World} (h : g.In w) (hb : Below w.heap.size w w1) : g.In w1 :=
  ⟨Kd.C_below h.h0 hb, Kd.C_below h.h1 hb, Kd.C_below h.h2 hb, Kd.C_below h.h3 hb, Kd.C_below h.h4 hb, Kd.C_below h.h5 hb, h.l0, h.l1, h.l2, h.l3, h.l4, h.l5, h.u16⟩
theorem G.In.alloc {g : G} {w : World} (h : g.In w) (o : Obj) : g.In (w.alloc o) := h.below (below_alloc (Below.refl _ _) o)
theorem G.In.drewN {g : G} {w : World} (h : g.In w) (n : Nat) : g.In (w.drewN n) := h.below (pw_below_drewN (Below.refl _ _) n)
theorem G.In.drew {g : G} {w : World} (h : g.In w) : g.In w.drew := h.below (below_drew (Below.refl _ _))
end Go.Proofs.Ythaiodklfoegiaa.GValid

/- graph.Valid, walked: the main way. -/
namespace Go.Proofs.Ythaiodklfoegiaa.GValid
open Go.RowKit Go.Proofs.YthaiodklfoegiaaW.PrintWords Go.Proofs.YthaiodklfoegiaaW.PrintLast Go.Proofs.YthaiodklfoegiaaW.PrintMore Go.Proofs.Ythaiodklfoegiaa.BMap Go.Proofs.Ythaiodklfoegiaa.BRow Go.Proofs.Ythaiodklfoegiaa.GDiffer Go.Proofs.Ythaiodklfoegiaa.GBlk Go.Proofs.Ythaiodklfoegiaa.VPure Go.Maps
open Go.Proofs.Ythaiodklfoegiaa

theorem madeBlk (w : World) (n : Nat) : Blk (w.alloc (made n)) w.heap.size n (fun _ _ => 0) := Blk.made w n _ rfl
end Go.Proofs.Ythaiodklfoegiaa.GValid

/- graph.Compile, walked. -/
namespace Go.Proofs.Ythaiodklfoegiaa.CCompile
open Go.RowKit Go.Proofs.YthaiodklfoegiaaW.PrintWords Go.Proofs.YthaiodklfoegiaaW.PrintLast Go.Proofs.YthaiodklfoegiaaW.PrintMore Go.Proofs.Ythaiodklfoegiaa.BMap Go.Proofs.Ythaiodklfoegiaa.BRow Go.Proofs.Ythaiodklfoegiaa.GDiffer Go.Proofs.Ythaiodklfoegiaa.GBlk Go.Proofs.Ythaiodklfoegiaa.CPure Go.Proofs.Ythaiodklfoegiaa.CBits Go.Proofs.Ythaiodklfoegiaa.CClasses Go.Proofs.Ythaiodklfoegiaa.CMasks Go.Proofs.Ythaiodklfoegiaa.CClone Go.Proofs.Ythaiodklfoegiaa.CSame Go.Proofs.Ythaiodklfoegiaa.GValid Go.Proofs.Ythaiodklfoegiaa.MLines Go.Proofs.Ythaiodklfoegiaa.MSide Go.Proofs.Ythaiodklfoegiaa.MPol Go.Maps
open Go.Proofs.Ythaiodklfoegiaa Go.Proofs.Ythaiodklfoegiaa.PG

theorem z26 (w : World) : (zeroValue 26).run Try.prog w = .ok (.agg #[.slice none 0 0, .slice none 0 0, .slice none 0 0, .slice none 0 0, .slice none 0 0, .slice none 0 0]) w := by kernel_rfl
theorem i26 : (Try.prog.info? 26).map (·.size) = some 6 := by kernel_rfl
/-- The graph's variable, begun. -/
abbrev gV (v0 v1 v2 v3 v4 v5 : Value) : Array Value := #[v0, v1, v2, v3, v4, v5]

/-- The graph's variable, the rows and the columns, up to (i, j). -/
abbrev S3 (g3 gr gc : Nat) : Nat → Prop := fun b => b = g3 ∨ b = gr ∨ b = gc
structure Lp (d : PolD) (g3 gr gc : Nat) (WB wr : World) (u0 v1 u2 : Value) (ns : List ByteArray) (i j : Nat) : Prop where
  same : Same (S3 g3 gr gc) WB wr
  g : Stays wr g3 (gV u0 v1 u2 (.slice none 0 0) (.slice none 0 0) (.slice none 0 0)) 26
  r1 : Kd.R Kd.string 9 wr WB.heap.size (fun _ => True) v1 ns
  rows : Blk wr gr d.subs.length (prt (fill d.objs.length (matD d)) i j)
  cols : Blk wr gc d.objs.length (fun b a => prt (fill d.objs.length (matD d)) i j a b)
theorem blk_of {W w1 : World} {g n : Nat} {F : Nat → Nat → Int} (hB : Blk W g n F) (e : w1.heap[g]? = W.heap[g]?) : Blk w1 g n F := World.rowIs.of_block hB e
namespace Lp
variable {d : PolD} {g3 gr gc : Nat} {WB wr w1 : World} {u0 v1 u2 v' : Value} {ns ns' : List ByteArray} {i j : Nat}
theorem move (h : Lp d g3 gr gc WB wr u0 v1 u2 ns i j) (hb : Below wr.heap.size wr w1) : Lp d g3 gr gc WB w1 u0 v1 u2 ns i j :=
  ⟨h.same.move hb, h.g.below hb, Kd.R_below h.r1 hb, h.rows.below hb, h.cols.below hb⟩
theorem blk_ne {e : Nat} {base : Nat} {ok : Nat → Prop} {v : Value} {xs : List ByteArray} {W : World} (h : Kd.R Kd.string e W base ok v xs) {g n : Nat} {F : Nat → Nat → Int} (hB : Blk W g n F) (ht : e ≠ 65) : some g ≠ v.ownBlock := by
  obtain ⟨c, hb, _⟩ := hB
  exact Kd.R_ne h hb ht
theorem app (h : Lp d g3 gr gc WB wr u0 v1 u2 ns i j) (hr : Kd.R Kd.string 9 w1 WB.heap.size (fun _ => True) v' ns') (hg : wr.grownBy w1 v1.ownBlock) (n1 : gr ≠ g3) (n2 : gc ≠ g3) : Lp d g3 gr gc WB (w1.setCell ⟨g3, 1, none⟩ v') u0 v' u2 ns' i j where
  same := (h.same.grown hg (fun k hk => by
    obtain ⟨inner, ho⟩ := Kd.R_own h.r1
    exact .inr (own_base ho k hk))).set (.inl (.inl rfl)) v'
  g := stays_set ((hg.block _ (Array.getElem?_eq_some_iff.1 h.g).1 (Kd.R_ne h.r1 h.g (by decide))).trans h.g) 1 v'
  r1 := R_set hr ((hg.block _ (Array.getElem?_eq_some_iff.1 h.g).1 (Kd.R_ne h.r1 h.g (by decide))).trans h.g) (by decide) 1 v'
  rows := Blk.far (blk_of h.rows (hg.block _ h.rows.lt (blk_ne h.r1 h.rows (by decide)))) (by exact n1) v'
  cols := Blk.far (blk_of h.cols (hg.block _ h.cols.lt (blk_ne h.r1 h.cols (by decide)))) (by exact n2) v'
theorem put (h : Lp d g3 gr gc WB wr u0 v1 u2 ns i j) (n0 : gr ≠ gc) (n1 : gr ≠ g3) (n2 : gc ≠ g3) (hi : i < 64) (hj : j < 64) (x : Int) (hx : fill d.objs.length (matD d) i j = x) :
    Lp d g3 gr gc WB ((wr.setCell ⟨gr, i * 64 + j, none⟩ (.int .u16 x)).setCell ⟨gc, j * 64 + i, none⟩ (.int .u16 x)).drew u0 v1 u2 ns i (j + 1) where
  same := ((h.same.set (.inl (.inr (.inl rfl))) _).set (.inl (.inr (.inr rfl))) _).drew
  g := stays_far (stays_far h.g (by exact n1.symm) _) (by exact n2.symm) _
  r1 := by
    obtain ⟨c1, hb1, _⟩ := h.rows
    obtain ⟨c2, hb2, _⟩ := h.cols.far (a := ⟨gr, i * 64 + j, none⟩) (by show gc ≠ gr; exact n0.symm) (.int .u16 x)
    exact R_set (R_set h.r1 hb1 (by decide) _ _) hb2 (by decide) _ _
  rows := by
    have := ((h.rows.set (i := i) hj x).far (a := ⟨gc, j * 64 + i, none⟩) (by show gr ≠ gc; exact n0) (.int .u16 x)).congr (F' := prt (fill d.objs.length (matD d)) i (j + 1)) (fun a b _ _ => by
      subst hx; exact prt_next _ i j a b)
    exact this
  cols := by
    have := ((h.cols.far (a := ⟨gr, i * 64 + j, none⟩) (by show gc ≠ gr; exact n0.symm) (.int .u16 x)).set (i := j) hi x).congr (F' := fun b a => prt (fill d.objs.length (matD d)) i (j + 1) a b) (fun b a _ _ => by
      subst hx
      have := prt_next (fill d.objs.length (matD d)) i j a b
      rw [← this]
      by_cases e : a = i ∧ b = j
      · rw [if_pos e, if_pos e.symm]
      · rw [if_neg e, if_neg (fun k => e k.symm)])
    exact this
theorem nextRow (h : Lp d g3 gr gc WB wr u0 v1 u2 ns i d.objs.length) : Lp d g3 gr gc WB wr u0 v1 u2 ns (i + 1) 0 :=
  ⟨h.same, h.g, h.r1, h.rows.congr fun a b _ _ => prt_row _ _ i a b, h.cols.congr fun b a _ _ => prt_row _ _ i a b⟩
end Lp
theorem made_two (w2 : World) (n m : Nat) : Blk ((w2.alloc (made n)).alloc (made m)).drew w2.heap.size n (fun _ _ => 0) ∧ Blk ((w2.alloc (made n)).alloc (made m)).drew (w2.heap.size + 1) m (fun _ _ => 0) ∧ Below w2.heap.size w2 ((w2.alloc (made n)).alloc (made m)).drew := by
  refine ⟨(madeBlk w2 n).below ((Below.refl _ _).alloc (Nat.le_refl _) _).drew, ?_, below_drew (below_alloc (below_alloc (Below.refl _ _) _) _)⟩
  have := madeBlk (w2.alloc (made n)) m
  rw [World.size_alloc] at this
  exact this.drew

theorem classes_to (A : Option Addr) (c : Nat) (ls : List (List Int)) (w : World) (n : Nat) (hn : ls.length = n) (hC : kLine.C w A n ls) (hok : ∀ l ∈ ls, lineOk l) (hl : n ≤ 64) :
    Calls Try.prog 49 #[.slice A n c] w fun e w' => ∃ v4 v5, e = .returned (.tuple #[v4, v5]) ∧ Kd.R (Kd.int .i64) 3 w' w.heap.size (fun _ => True) v4 (numsOf ls) ∧ Kd.R (Kd.int .i64) 3 w' w.heap.size (fun _ => True) v5 (firstsOf ls) ∧ Below w.heap.size w w' := by
  subst hn; exact classes_calls A c ls w hC hok hl
theorem info32 : (Try.prog.info? 32).map (fun i => (i.zero, i.size, i.bytes)) = some (some (.slice none 0 0), 1, 24) := by kernel_rfl
theorem make_row (m : Nat) (hm : m ≤ 64) (w : World) : (Instr.makeSlice 32 (.int .i64 0) (.int .i64 (m : Int))).run Try.prog w = .ok (.slice (some ⟨w.heap.size, 0, none⟩) 0 m) (w.alloc (.cells (madeCells #[.int .u16 0] m) 31)) := by
  have h : (Try.prog.info? 31).map (fun i => (i.zero, i.size, i.bytes)) = some (some (.int .u16 0), 1, 2) := PG.info31
  obtain ⟨i, h1, hz⟩ := Option.map_eq_some_iff.1 h
  simp only [Prod.mk.injEq] at hz
  obtain ⟨h2, h3, h4⟩ := hz
  have := run_make (P := Try.prog) w 32 31 i _ Try.underlying32 h1 h2 .i64 .i64 0 m (by omega) (by omega) (by rw [h4]; omega) (by omega)
  rw [h3] at this
  simpa [Value.cells] using this
theorem row_none (w : World) (m : Nat) (hm : m ≤ 64) : Kd.R (Kd.int .u16) 31 (w.alloc (.cells (madeCells #[.int .u16 0] m) 31)) w.heap.size (fun _ => True) (.slice (some ⟨w.heap.size, 0, none⟩) 0 m) [] := by
  have h2 : (w.alloc (.cells (madeCells #[.int .u16 0] m) 31)).ownsRow w.heap.size 31 1 (.slice (some ⟨w.heap.size, 0, none⟩) 0 m) ([] : List Int).length (encs (Value.int .u16) []) := by
    have e : (List.replicate m (0 : Int)).length = m := by simp
    have h0 := own_made' w w.heap.size 31 .u16 m (Nat.le_refl _) (by omega)
    rw [e] at h0
    have h1 := own_take (m := 0) h0 (Nat.zero_le _)
    simpa [encs] using h1
  exact Kd.R_of_own (h1 := fun _ => rfl) h2 (fun _ _ => trivial)
/-- Everything but the graph's variable. -/
abbrev S1 (g3 : Nat) : Nat → Prop := fun b => b = g3
theorem offG {α : Type} {dk : Kd α} {e base g3 : Nat} {ok : Nat → Prop} {w : World} {v : Value} {xs : List α} {cs : Array Value} (h : dk.R e w base ok v xs) (hg : Stays w g3 cs 26) (ht : ∀ q, q ∈ e :: dk.E → q ≠ 26) : dk.R e w base (fun k => ¬ S1 g3 k) v xs := Kd.R_mono (Kd.R_types h hg ht) (fun _ hk => hk.2)
/-- The masks, so far. -/
structure Mk (g3 : Nat) (W wr : World) (u0 v1 u2 v4 v6 vm : Value) (ms : List (List Int)) : Prop where
  same : Same (S1 g3) W wr
  g : Stays wr g3 (gV u0 v1 u2 v4 v6 vm) 26
  ms : Kd.R (Kd.slice 31 (Kd.int .u16)) 32 wr W.heap.size (fun _ => True) vm ms
theorem types_ms : ∀ q, q ∈ 32 :: (Kd.slice 31 (Kd.int .u16)).E → q ≠ 26 := by
  intro q hq
  simp [Kd.slice, Kd.int, Kd.scalar] at hq
  omega
namespace Mk
variable {g3 : Nat} {W wr w1 : World} {u0 v1 u2 v4 v6 vm v' : Value} {ms ms' : List (List Int)}
theorem move (h : Mk g3 W wr u0 v1 u2 v4 v6 vm ms) (hb : Below wr.heap.size wr w1) : Mk g3 W w1 u0 v1 u2 v4 v6 vm ms := ⟨h.same.move hb, h.g.below hb, Kd.R_below h.ms hb⟩
/-- A row that is younger than B grows. -/
theorem row {B : Nat} (h : Mk g3 W wr u0 v1 u2 v4 v6 vm ms) (hms : Kd.R (Kd.slice 31 (Kd.int .u16)) 32 wr W.heap.size (fun b => b < B) vm ms) (hB : W.heap.size ≤ B) {vr : Value} (hr : ∀ k, vr.ownBlock = some k → B ≤ k) (hg : wr.grownBy w1 vr.ownBlock) (hne : some g3 ≠ vr.ownBlock) : Mk g3 W w1 u0 v1 u2 v4 v6 vm ms ∧ Kd.R (Kd.slice 31 (Kd.int .u16)) 32 w1 W.heap.size (fun b => b < B) vm ms := by
  have h1 := Kd.R_grown hms hg (fun k hk e => by have := hr k e.symm; omega)
  exact ⟨⟨h.same.grown hg (fun k hk => .inr (Nat.le_trans hB (hr k hk))), (hg.block _ (Array.getElem?_eq_some_iff.1 h.g).1 hne).trans h.g, Kd.R_mono h1 (fun _ _ => trivial)⟩, h1⟩
theorem app (h : Mk g3 W wr u0 v1 u2 v4 v6 vm ms) (hr : Kd.R (Kd.slice 31 (Kd.int .u16)) 32 w1 W.heap.size (fun _ => True) v' ms') (hg : wr.grownBy w1 vm.ownBlock) : Mk g3 W (w1.setCell ⟨g3, 5, none⟩ v') u0 v1 u2 v4 v6 v' ms' where
  same := (h.same.grown hg (fun k hk => by
    obtain ⟨inner, ho⟩ := Kd.R_own h.ms
    exact .inr (own_base ho k hk))).set (.inl rfl) v'
  g := stays_set ((hg.block _ (Array.getElem?_eq_some_iff.1 h.g).1 (Kd.R_ne h.ms h.g (by decide))).trans h.g) 5 v'
  ms := R_set hr ((hg.block _ (Array.getElem?_eq_some_iff.1 h.g).1 (Kd.R_ne h.ms h.g (by decide))).trans h.g) types_ms 5 v'
end Mk

set_option maxHeartbeats 8000000 in
set_option maxRecDepth 100000 in
theorem compile_calls (p : Pol) (w : World) (hp : p.In w) (hd : p.d.Ok) (hs : p.d.subs.length ≤ 64) (ho : p.d.objs.length ≤ 64) (ha : p.d.acts.length ≤ 16) :
    Calls Try.prog 16 #[.agg p.cells] w fun e w' => ∃ g : G, e = .returned g.val ∧ g.In w' ∧ g.la = p.d.acts ∧ g.ls = p.d.subs.map (·.f0) ∧ g.lo = p.d.objs ∧ g.of = ofM p.d.subs.length p.d.objs.length (matD p.d) ∧ g.on = ofM p.d.objs.length p.d.subs.length (fun j i => matD p.d i j) ∧ g.ms = masksM p.d.subs.length p.d.objs.length (matD p.d) ∧ Below w.heap.size w w' := by
  obtain ⟨d, A0, c0, A1, c1, A2, c2, A3, c3, A4, c4, A5, c5, A6, c6, A7, c7, A8, c8, A9, c9, A10, c10⟩ := p
  have HP := Aside0.mk hp
  have HD := Aside0.mk hd
  have hs : d.subs.length ≤ 64 := hs
  have ho : d.objs.length ≤ 64 := ho
  have ha : d.acts.length ≤ 16 := ha
  clear hp hd
  have hst0 : Stays (w.alloc (.cells (Pol.cells (Pol.mk d A0 c0 A1 c1 A2 c2 A3 c3 A4 c4 A5 c5 A6 c6 A7 c7 A8 c8 A9 c9 A10 c10)) 39)) w.heap.size (Pol.cells (Pol.mk d A0 c0 A1 c1 A2 c2 A3 c3 A4 c4 A5 c5 A6 c6 A7 c7 A8 c8 A9 c9 A10 c10)) 39 := heap_alloc_new w _
  have e0 := hst0.cell 0
  have e1 := hst0.cell 1
  have e3 := hst0.cell 3
  simp only [Pol.cells, List.getElem?_toArray, List.getElem?_cons_zero, List.getElem?_cons_succ] at e0 e1 e3
  have HST := Aside0.mk hst0
  clear hst0
  unfold Pol.cells
  unfold Pol.cells at HST
  simp only [] at HST e0 e1 e3 ⊢
  have hz := z26
  go_enter Try.func16, Try.ntmps16
  go_upto_region 3 with fail
  clear hz e0 e1 e3
  have hW0s : Stays ((w.alloc (.cells #[.slice A0 d.acts.length c0, .slice A1 d.subs.length c1, .slice A2 d.roles.length c2, .slice A3 d.objs.length c3, .slice A4 d.grps.length c4, .slice A5 d.mem.length c5, .slice A6 d.inh.length c6, .slice A7 d.par.length c7, .slice A8 d.wit.length c8, .slice A9 d.rules.length c9, .slice A10 d.exc.length c10] 39)).alloc (.cells #[.slice none 0 0, .slice none 0 0, .slice none 0 0, .slice none 0 0, .slice none 0 0, .slice none 0 0] 26)) w.heap.size #[.slice A0 d.acts.length c0, .slice A1 d.subs.length c1, .slice A2 d.roles.length c2, .slice A3 d.objs.length c3, .slice A4 d.grps.length c4, .slice A5 d.mem.length c5, .slice A6 d.inh.length c6, .slice A7 d.par.length c7, .slice A8 d.wit.length c8, .slice A9 d.rules.length c9, .slice A10 d.exc.length c10] 39 := HST.out.below (below_alloc (Below.refl _ _) _)
  have hW0v : Stays ((w.alloc (.cells #[.slice A0 d.acts.length c0, .slice A1 d.subs.length c1, .slice A2 d.roles.length c2, .slice A3 d.objs.length c3, .slice A4 d.grps.length c4, .slice A5 d.mem.length c5, .slice A6 d.inh.length c6, .slice A7 d.par.length c7, .slice A8 d.wit.length c8, .slice A9 d.rules.length c9, .slice A10 d.exc.length c10] 39)).alloc (.cells #[.slice none 0 0, .slice none 0 0, .slice none 0 0, .slice none 0 0, .slice none 0 0, .slice none 0 0] 26)) (w.heap.size + 1) #[.slice none 0 0, .slice none 0 0, .slice none 0 0, .slice none 0 0, .slice none 0 0, .slice none 0 0] 26 := by
    have h := heap_alloc_new (w.alloc (.cells #[.slice A0 d.acts.length c0, .slice A1 d.subs.length c1, .slice A2 d.roles.length c2, .slice A3 d.objs.length c3, .slice A4 d.grps.length c4, .slice A5 d.mem.length c5, .slice A6 d.inh.length c6, .slice A7 d.par.length c7, .slice A8 d.wit.length c8, .slice A9 d.rules.length c9, .slice A10 d.exc.length c10] 39)) (.cells #[.slice none 0 0, .slice none 0 0, .slice none 0 0, .slice none 0 0, .slice none 0 0, .slice none 0 0] 26)
    rw [show (w.alloc (.cells #[.slice A0 d.acts.length c0, .slice A1 d.subs.length c1, .slice A2 d.roles.length c2, .slice A3 d.objs.length c3, .slice A4 d.grps.length c4, .slice A5 d.mem.length c5, .slice A6 d.inh.length c6, .slice A7 d.par.length c7, .slice A8 d.wit.length c8, .slice A9 d.rules.length c9, .slice A10 d.exc.length c10] 39)).heap.size = w.heap.size + 1 from Array.size_push ..] at h
    exact h
  have hW0b : Below w.heap.size w ((w.alloc (.cells #[.slice A0 d.acts.length c0, .slice A1 d.subs.length c1, .slice A2 d.roles.length c2, .slice A3 d.objs.length c3, .slice A4 d.grps.length c4, .slice A5 d.mem.length c5, .slice A6 d.inh.length c6, .slice A7 d.par.length c7, .slice A8 d.wit.length c8, .slice A9 d.rules.length c9, .slice A10 d.exc.length c10] 39)).alloc (.cells #[.slice none 0 0, .slice none 0 0, .slice none 0 0, .slice none 0 0, .slice none 0 0, .slice none 0 0] 26)) := below_alloc (below_alloc (Below.refl _ _) _) _
  obtain ⟨W0, hW0⟩ : ∃ W0, W0 = ((w.alloc (.cells #[.slice A0 d.acts.length c0, .slice A1 d.subs.length c1, .slice A2 d.roles.length c2, .slice A3 d.objs.length c3, .slice A4 d.grps.length c4, .slice A5 d.mem.length c5, .slice A6 d.inh.length c6, .slice A7 d.par.length c7, .slice A8 d.wit.length c8, .slice A9 d.rules.length c9, .slice A10 d.exc.length c10] 39)).alloc (.cells #[.slice none 0 0, .slice none 0 0, .slice none 0 0, .slice none 0 0, .slice none 0 0, .slice none 0 0] 26)) := ⟨_, rfl⟩
  obtain ⟨gv, hgv⟩ : ∃ gv, gv = w.heap.size + 1 := ⟨_, rfl⟩
  rw [← hW0] at hW0s hW0v hW0b ⊢
  rw [← hgv] at hW0v ⊢
  have HGV := Aside0.mk (show w.heap.size < gv by omega)
  have HB0 := Aside0.mk hW0s
  have HV0 := Aside0.mk hW0v
  have HW0 := Aside0.mk hW0b
  clear hW0s hW0v hW0b hW0 hgv HST
  go_cut [3] (fun v3 wx => ∃ (g3 : Nat) (u0 u2 : Value), v3 = .pointer (some ⟨g3, 0, none⟩) ∧ Aside0 (gv < g3) ∧ Aside0 (Stays wx g3 (gV u0 (.slice none 0 0) u2 (.slice none 0 0) (.slice none 0 0) (.slice none 0 0)) 26) ∧ Aside0 (Kd.R Kd.string 9 wx w.heap.size (fun _ => True) u0 d.acts) ∧ Aside0 (Kd.R Kd.string 9 wx w.heap.size (fun _ => True) u2 d.objs) ∧ Aside0 (Below W0.heap.size W0 wx))
  case first =>
    have HB1 := Aside0.mk (below_drew (Below.refl W0.heap.size W0))
    refine start_ (n := 9) (S := fun w' => w'.cell? ⟨w.heap.size, 0, none⟩ = some (.slice A0 d.acts.length c0) ∧ w'.cell? ⟨w.heap.size, 3, none⟩ = some (.slice A3 d.objs.length c3)) (ds := [8]) #[false, false, false, false, false, false, false, false, false] (by kernel_rfl) rfl rfl ⟨HB0.out.cell 0, HB0.out.cell 3⟩ (fun hHeld => ?_)
    obtain ⟨W1, hW1⟩ : ∃ W1, W1 = W0.drew := ⟨_, rfl⟩
    rw [← hW1] at hHeld HB1 ⊢
    clear hW1
    refine pure_ (i := 0) (N := some 36) (v := ?_) (a' := ?_) #[true, false, false, false, false, false, false, false, false] rfl rfl (by kernel_rfl) (fun _ _ _ h => h) (Or.inl ⟨by rfl, ?_⟩) ?_ ?_
    rotate_left
    · intro w'
      go_simp
      with_reducible rfl
    rotate_left
    · simp only [Act.put, List.setIfInBounds_toArray, List.set_cons_zero, List.set_cons_succ]
      rfl
    refine take_ (i := 1) (N := some 37) (v := ?_) (a' := ?_) #[true, true, false, false, false, false, false, false, false] rfl rfl (by kernel_rfl) (fun _ _ _ h => h) (Or.inl ⟨by rfl, ?_⟩) hHeld ?_ ?_
    rotate_left
    · rintro w' ⟨s0, s1⟩
      go_simp
      with_reducible rfl
    rotate_left
    · simp only [Act.put, List.setIfInBounds_toArray, List.set_cons_zero, List.set_cons_succ]
      rfl
    refine pure_ (i := 3) (N := some 39) (v := ?_) (a' := ?_) #[true, true, false, true, false, false, false, false, false] rfl rfl (by kernel_rfl) (fun _ _ _ h => h) (Or.inl ⟨by rfl, ?_⟩) ?_ ?_
    rotate_left
    · intro w'
      go_simp
      with_reducible rfl
    rotate_left
    · simp only [Act.put, List.setIfInBounds_toArray, List.set_cons_zero, List.set_cons_succ]
      rfl
    refine take_ (i := 4) (N := some 40) (v := ?_) (a' := ?_) #[true, true, false, true, true, false, false, false, false] rfl rfl (by kernel_rfl) (fun _ _ _ h => h) (Or.inl ⟨by rfl, ?_⟩) hHeld ?_ ?_
    rotate_left
    · rintro w' ⟨s0, s1⟩
      go_simp
      with_reducible rfl
    rotate_left
    · simp only [Act.put, List.setIfInBounds_toArray, List.set_cons_zero, List.set_cons_succ]
      rfl
    refine two_ (i := 2) (j := 7) (Ni := some 38) (Nj := some 3) #[true, true, true, true, true, false, false, false, false] #[true, true, false, true, true, false, false, true, false] rfl rfl rfl rfl (by kernel_rfl) (by decide) (by decide) (fun K hK => ?_) (fun K hK => ?_)
    · refine goes_ Try.func47 (by kernel_rfl) rfl #[.slice A0 d.acts.length c0] (by rfl) rfl rfl (by (try simp only [List.map_toArray, List.map_cons, List.map_nil]); first | done | rfl) ?_
      refine (clone_calls A0 c0 d.acts _ ((HP.out.below (below_then HW0.out HW0.out.size HB1.out)).h0) (by omega)).mono ?_
      rintro e wA ⟨vv, rfl, hR, hb⟩
      obtain ⟨Ax, cx, rfl⟩ := Kd.R_slice hR
      refine ⟨_, rfl, ?_⟩
      have HB2 := Aside0.mk (below_then HB1.out HB1.out.size hb)
      have HA := Aside0.mk (Kd.R_lower hR (Nat.le_trans HW0.out.size HB1.out.size))
      clear hR hb
      refine hK.out _ _ ⟨pw_cell_below HB2.out (HB0.out.cell 0), pw_cell_below HB2.out (HB0.out.cell 3)⟩ (fun hHeld => ?_)
      clear hK K
      refine norm_ (a' := ?_) ?_ ?_
      rotate_left
      · show Act.put _ (some 38) _ = _
        simp only [Act.put, List.setIfInBounds_toArray, List.set_cons_zero, List.set_cons_succ]
        rfl
      refine two_ (i := 5) (j := 7) (Ni := some 41) (Nj := some 3) #[true, true, true, true, true, true, false, false, false] #[true, true, true, true, true, false, false, true, false] rfl rfl rfl rfl (by kernel_rfl) (by decide) (by decide) (fun K hK => ?_) (fun K hK => ?_)
      · refine goes_ Try.func47 (by kernel_rfl) rfl #[.slice A3 d.objs.length c3] (by rfl) rfl rfl (by (try simp only [List.map_toArray, List.map_cons, List.map_nil]); first | done | rfl) ?_
        refine (clone_calls A3 c3 d.objs _ ((HP.out.below (below_then HW0.out HW0.out.size HB2.out)).h3) (by omega)).mono ?_
        rintro e wC ⟨vv, rfl, hR, hb⟩
        obtain ⟨Ay, cy, rfl⟩ := Kd.R_slice hR
        refine ⟨_, rfl, ?_⟩
        have HB3 := Aside0.mk (below_then HB2.out HB2.out.size hb)
        have HA := Aside0.mk (Kd.R_below HA.out hb)
        have HC := Aside0.mk (Kd.R_lower hR (Nat.le_trans HW0.out.size HB2.out.size))
        clear hR hb
        refine hK.out _ _ ⟨pw_cell_below HB3.out (HB0.out.cell 0), pw_cell_below HB3.out (HB0.out.cell 3)⟩ (fun hHeld => ?_)
        clear hK K
        refine norm_ (a' := ?_) ?_ ?_
        rotate_left
        · show Act.put _ (some 41) _ = _
          simp only [Act.put, List.setIfInBounds_toArray, List.set_cons_zero, List.set_cons_succ]
          rfl
        refine pure_ (i := 6) (N := some 42) (v := ?_) (a' := ?_) #[true, true, true, true, true, true, true, false, false] rfl rfl (by kernel_rfl) (fun _ _ _ h => h) (Or.inl ⟨by rfl, ?_⟩) ?_ ?_
        rotate_left
        · intro w'
          go_simp
          with_reducible rfl
        rotate_left
        · simp only [Act.put, List.setIfInBounds_toArray, List.set_cons_zero, List.set_cons_succ]
          rfl
        refine one_ (i := 7) (N := some 3) #[true, true, true, true, true, true, true, true, false] rfl rfl (by kernel_rfl) (by decide) (fun K hK => ?_)
        have hz := z26
        refine GDiffer.step_run (w' := World.alloc wC (.cells #[.slice none 0 0, .slice none 0 0, .slice none 0 0, .slice none 0 0, .slice none 0 0, .slice none 0 0] 26)) (v := .pointer (some ⟨World.heap wC |>.size, 0, none⟩)) rfl rfl (by go_simp) ?_
        clear hz
        have hs3 : Stays (World.alloc wC (.cells #[.slice none 0 0, .slice none 0 0, .slice none 0 0, .slice none 0 0, .slice none 0 0, .slice none 0 0] 26)) (World.heap wC).size #[.slice none 0 0, .slice none 0 0, .slice none 0 0, .slice none 0 0, .slice none 0 0, .slice none 0 0] 26 := heap_alloc_new wC _
        have hb := below_alloc (Below.refl _ wC) (.cells #[.slice none 0 0, .slice none 0 0, .slice none 0 0, .slice none 0 0, .slice none 0 0, .slice none 0 0] 26)
        have HB4 := Aside0.mk (below_then HB3.out HB3.out.size hb)
        have hle : W0.heap.size ≤ (World.heap wC).size := HB3.out.size
        have HA := Aside0.mk (Kd.R_below HA.out hb)
        have HC := Aside0.mk (Kd.R_below HC.out hb)
        obtain ⟨W7, hW7⟩ : ∃ W7, W7 = World.alloc wC (.cells #[.slice none 0 0, .slice none 0 0, .slice none 0 0, .slice none 0 0, .slice none 0 0, .slice none 0 0] 26) := ⟨_, rfl⟩
        obtain ⟨g3, hg3⟩ : ∃ g3, g3 = (World.heap wC).size := ⟨_, rfl⟩
        rw [← hW7] at hs3 HB4 HA HC ⊢
        rw [← hg3] at hs3 hle ⊢
        have HS3 := Aside0.mk hs3
        have HLE := Aside0.mk hle
        have HG3 := Aside0.mk (show gv < g3 by have := (Array.getElem?_eq_some_iff.1 HV0.out).1; omega)
        clear hs3 hb hle hW7 hg3
        refine hK.out _ _ ⟨pw_cell_below HB4.out (HB0.out.cell 0), pw_cell_below HB4.out (HB0.out.cell 3)⟩ (fun hHeld => ?_)
        clear hK K
        refine norm_ (a' := ?_) ?_ ?_
        rotate_left
        · show Act.put _ (some 3) _ = _
          simp only [Act.put, List.setIfInBounds_toArray, List.set_cons_zero, List.set_cons_succ]
          rfl
        refine last_ (i := 8) (N := none) #[true, true, true, true, true, true, true, true, true] rfl rfl (by kernel_rfl) (by decide) (fun K hK => ?_)
        have hst := run_storeAt_mid (P := Try.prog) W7 g3 0 26 (gV (.slice Ax d.acts.length cx) (.slice none 0 0) (.slice Ay d.objs.length cy) (.slice none 0 0) (.slice none 0 0) (.slice none 0 0)) (Stays.there (cs := #[.slice none 0 0, .slice none 0 0, .slice none 0 0, .slice none 0 0, .slice none 0 0, .slice none 0 0]) HS3.out) i26 (by simp [gV, Value.oneCell'])
        refine GDiffer.step_skip (w' := World.setCells W7 g3 0 (gV (.slice Ax d.acts.length cx) (.slice none 0 0) (.slice Ay d.objs.length cy) (.slice none 0 0) (.slice none 0 0) (.slice none 0 0)).toList) rfl rfl (by first | (simp [execOp, Act.eval, hst]; done) | (show Sem.run Try.prog _ _ = _; simp only [execOp, Act.eval]; simp; rw [hst]; rfl)) ?_
        refine hK.out _ _ ?_
        clear hK K hst
        refine done_ (by kernel_rfl) ?_
        have hS3 := setCells_var (vs := (gV (.slice Ax d.acts.length cx) (.slice none 0 0) (.slice Ay d.objs.length cy) (.slice none 0 0) (.slice none 0 0) (.slice none 0 0))) HS3.out rfl
        have hbb := setCells_below HB4.out HLE.out (gV (.slice Ax d.acts.length cx) (.slice none 0 0) (.slice Ay d.objs.length cy) (.slice none 0 0) (.slice none 0 0) (.slice none 0 0)).toList
        have hRA := R_setCells HA.out HS3.out (by decide) (gV (.slice Ax d.acts.length cx) (.slice none 0 0) (.slice Ay d.objs.length cy) (.slice none 0 0) (.slice none 0 0) (.slice none 0 0)).toList
        have hRC := R_setCells HC.out HS3.out (by decide) (gV (.slice Ax d.acts.length cx) (.slice none 0 0) (.slice Ay d.objs.length cy) (.slice none 0 0) (.slice none 0 0) (.slice none 0 0)).toList
        have HF := Aside0.mk (And.intro hS3 (And.intro hbb (And.intro hRA hRC)))
        clear hS3 hbb hRA hRC hHeld
        go_wp2
        go_meet
        exact ⟨g3, _, _, rfl, HG3, ⟨HF.out.1⟩, ⟨HF.out.2.2.1⟩, ⟨HF.out.2.2.2⟩, ⟨HF.out.2.1⟩⟩
      · have hz := z26
        refine GDiffer.step_run (w' := World.alloc wA (.cells #[.slice none 0 0, .slice none 0 0, .slice none 0 0, .slice none 0 0, .slice none 0 0, .slice none 0 0] 26)) (v := .pointer (some ⟨World.heap wA |>.size, 0, none⟩)) rfl rfl (by go_simp) ?_
        clear hz
        have hs3 : Stays (World.alloc wA (.cells #[.slice none 0 0, .slice none 0 0, .slice none 0 0, .slice none 0 0, .slice none 0 0, .slice none 0 0] 26)) (World.heap wA).size #[.slice none 0 0, .slice none 0 0, .slice none 0 0, .slice none 0 0, .slice none 0 0, .slice none 0 0] 26 := heap_alloc_new wA _
        have hb := below_alloc (Below.refl _ wA) (.cells #[.slice none 0 0, .slice none 0 0, .slice none 0 0, .slice none 0 0, .slice none 0 0, .slice none 0 0] 26)
        have HB3 := Aside0.mk (below_then HB2.out HB2.out.size hb)
        have hle : W0.heap.size ≤ (World.heap wA).size := HB2.out.size
        have HA := Aside0.mk (Kd.R_below HA.out hb)
        obtain ⟨W7, hW7⟩ : ∃ W7, W7 = World.alloc wA (.cells #[.slice none 0 0, .slice none 0 0, .slice none 0 0, .slice none 0 0, .slice none 0 0, .slice none 0 0] 26) := ⟨_, rfl⟩
        obtain ⟨g3, hg3⟩ : ∃ g3, g3 = (World.heap wA).size := ⟨_, rfl⟩
        rw [← hW7] at hs3 HB3 HA ⊢
        rw [← hg3] at hs3 hle ⊢
        have HS3 := Aside0.mk hs3
        have HLE := Aside0.mk hle
        have HG3 := Aside0.mk (show gv < g3 by have := (Array.getElem?_eq_some_iff.1 HV0.out).1; omega)
        clear hs3 hb hle hW7 hg3
        refine hK.out _ _ ⟨pw_cell_below HB3.out (HB0.out.cell 0), pw_cell_below HB3.out (HB0.out.cell 3)⟩ (fun hHeld => ?_)
        clear hK K
        refine norm_ (a' := ?_) ?_ ?_
        rotate_left
        · show Act.put _ (some 3) _ = _
          simp only [Act.put, List.setIfInBounds_toArray, List.set_cons_zero, List.set_cons_succ]
          rfl
        refine one_ (i := 5) (N := some 41) #[true, true, true, true, true, true, false, true, false] rfl rfl (by kernel_rfl) (by decide) (fun K hK => ?_)
        refine goes_ Try.func47 (by kernel_rfl) rfl #[.slice A3 d.objs.length c3] (by rfl) rfl rfl (by (try simp only [List.map_toArray, List.map_cons, List.map_nil]); first | done | rfl) ?_
        refine (clone_calls A3 c3 d.objs _ ((HP.out.below (below_then HW0.out HW0.out.size HB3.out)).h3) (by omega)).mono ?_
        rintro e wC ⟨vv, rfl, hR, hb⟩
        obtain ⟨Ay, cy, rfl⟩ := Kd.R_slice hR
        refine ⟨_, rfl, ?_⟩
        have HB4 := Aside0.mk (below_then HB3.out HB3.out.size hb)
        have HA := Aside0.mk (Kd.R_below HA.out hb)
        have HS3 := Aside0.mk (HS3.out.below hb)
        have HC := Aside0.mk (Kd.R_lower hR (Nat.le_trans HW0.out.size HB3.out.size))
        clear hR hb
        refine hK.out _ _ ⟨pw_cell_below HB4.out (HB0.out.cell 0), pw_cell_below HB4.out (HB0.out.cell 3)⟩ (fun hHeld => ?_)
        clear hK K
        refine norm_ (a' := ?_) ?_ ?_
        rotate_left
        · show Act.put _ (some 41) _ = _
          simp only [Act.put, List.setIfInBounds_toArray, List.set_cons_zero, List.set_cons_succ]
          rfl
        refine pure_ (i := 6) (N := some 42) (v := ?_) (a' := ?_) #[true, true, true, true, true, true, true, true, false] rfl rfl (by kernel_rfl) (fun _ _ _ h => h) (Or.inl ⟨by rfl, ?_⟩) ?_ ?_
        rotate_left
        · intro w'
          go_simp
          with_reducible rfl
        rotate_left
        · simp only [Act.put, List.setIfInBounds_toArray, List.set_cons_zero, List.set_cons_succ]
          rfl
        refine last_ (i := 8) (N := none) #[true, true, true, true, true, true, true, true, true] rfl rfl (by kernel_rfl) (by decide) (fun K hK => ?_)
        have hst := run_storeAt_mid (P := Try.prog) wC g3 0 26 (gV (.slice Ax d.acts.length cx) (.slice none 0 0) (.slice Ay d.objs.length cy) (.slice none 0 0) (.slice none 0 0) (.slice none 0 0)) (Stays.there (cs := #[.slice none 0 0, .slice none 0 0, .slice none 0 0, .slice none 0 0, .slice none 0 0, .slice none 0 0]) HS3.out) i26 (by simp [gV, Value.oneCell'])
        refine GDiffer.step_skip (w' := World.setCells wC g3 0 (gV (.slice Ax d.acts.length cx) (.slice none 0 0) (.slice Ay d.objs.length cy) (.slice none 0 0) (.slice none 0 0) (.slice none 0 0)).toList) rfl rfl (by first | (simp [execOp, Act.eval, hst]; done) | (show Sem.run Try.prog _ _ = _; simp only [execOp, Act.eval]; simp; rw [hst]; rfl)) ?_
        refine hK.out _ _ ?_
        clear hK K hst
        refine done_ (by kernel_rfl) ?_
        have hS3 := setCells_var (vs := (gV (.slice Ax d.acts.length cx) (.slice none 0 0) (.slice Ay d.objs.length cy) (.slice none 0 0) (.slice none 0 0) (.slice none 0 0))) HS3.out rfl
        have hbb := setCells_below HB4.out HLE.out (gV (.slice Ax d.acts.length cx) (.slice none 0 0) (.slice Ay d.objs.length cy) (.slice none 0 0) (.slice none 0 0) (.slice none 0 0)).toList
        have hRA := R_setCells HA.out HS3.out (by decide) (gV (.slice Ax d.acts.length cx) (.slice none 0 0) (.slice Ay d.objs.length cy) (.slice none 0 0) (.slice none 0 0) (.slice none 0 0)).toList
        have hRC := R_setCells HC.out HS3.out (by decide) (gV (.slice Ax d.acts.length cx) (.slice none 0 0) (.slice Ay d.objs.length cy) (.slice none 0 0) (.slice none 0 0) (.slice none 0 0)).toList
        have HF := Aside0.mk (And.intro hS3 (And.intro hbb (And.intro hRA hRC)))
        clear hS3 hbb hRA hRC hHeld
        go_wp2
        go_meet
        exact ⟨g3, _, _, rfl, HG3, ⟨HF.out.1⟩, ⟨HF.out.2.2.1⟩, ⟨HF.out.2.2.2⟩, ⟨HF.out.2.1⟩⟩
    · have hz := z26
      refine GDiffer.step_run (w' := World.alloc W1 (.cells #[.slice none 0 0, .slice none 0 0, .slice none 0 0, .slice none 0 0, .slice none 0 0, .slice none 0 0] 26)) (v := .pointer (some ⟨World.heap W1 |>.size, 0, none⟩)) rfl rfl (by go_simp) ?_
      clear hz
      have hs3 : Stays (World.alloc W1 (.cells #[.slice none 0 0, .slice none 0 0, .slice none 0 0, .slice none 0 0, .slice none 0 0, .slice none 0 0] 26)) (World.heap W1).size #[.slice none 0 0, .slice none 0 0, .slice none 0 0, .slice none 0 0, .slice none 0 0, .slice none 0 0] 26 := heap_alloc_new W1 _
      have hb := below_alloc (Below.refl _ W1) (.cells #[.slice none 0 0, .slice none 0 0, .slice none 0 0, .slice none 0 0, .slice none 0 0, .slice none 0 0] 26)
      have HB2 := Aside0.mk (below_then HB1.out HB1.out.size hb)
      have hle : W0.heap.size ≤ (World.heap W1).size := HB1.out.size
      obtain ⟨W7, hW7⟩ : ∃ W7, W7 = World.alloc W1 (.cells #[.slice none 0 0, .slice none 0 0, .slice none 0 0, .slice none 0 0, .slice none 0 0, .slice none 0 0] 26) := ⟨_, rfl⟩
      obtain ⟨g3, hg3⟩ : ∃ g3, g3 = (World.heap W1).size := ⟨_, rfl⟩
      rw [← hW7] at hs3 HB2 ⊢
      rw [← hg3] at hs3 hle ⊢
      have HS3 := Aside0.mk hs3
      have HLE := Aside0.mk hle
      have HG3 := Aside0.mk (show gv < g3 by have := (Array.getElem?_eq_some_iff.1 HV0.out).1; omega)
      clear hs3 hb hle hW7 hg3
      refine hK.out _ _ ⟨pw_cell_below HB2.out (HB0.out.cell 0), pw_cell_below HB2.out (HB0.out.cell 3)⟩ (fun hHeld => ?_)
      clear hK K
      refine norm_ (a' := ?_) ?_ ?_
      rotate_left
      · show Act.put _ (some 3) _ = _
        simp only [Act.put, List.setIfInBounds_toArray, List.set_cons_zero, List.set_cons_succ]
        rfl
      refine one_ (i := 2) (N := some 38) #[true, true, true, true, true, false, false, true, false] rfl rfl (by kernel_rfl) (by decide) (fun K hK => ?_)
      refine goes_ Try.func47 (by kernel_rfl) rfl #[.slice A0 d.acts.length c0] (by rfl) rfl rfl (by (try simp only [List.map_toArray, List.map_cons, List.map_nil]); first | done | rfl) ?_
      refine (clone_calls A0 c0 d.acts _ ((HP.out.below (below_then HW0.out HW0.out.size HB2.out)).h0) (by omega)).mono ?_
      rintro e wA ⟨vv, rfl, hR, hb⟩
      obtain ⟨Ax, cx, rfl⟩ := Kd.R_slice hR
      refine ⟨_, rfl, ?_⟩
      have HB3 := Aside0.mk (below_then HB2.out HB2.out.size hb)
      have HS3 := Aside0.mk (HS3.out.below hb)
      have HA := Aside0.mk (Kd.R_lower hR (Nat.le_trans HW0.out.size HB2.out.size))
      clear hR hb
      refine hK.out _ _ ⟨pw_cell_below HB3.out (HB0.out.cell 0), pw_cell_below HB3.out (HB0.out.cell 3)⟩ (fun hHeld => ?_)
      clear hK K
      refine norm_ (a' := ?_) ?_ ?_
      rotate_left
      · show Act.put _ (some 38) _ = _
        simp only [Act.put, List.setIfInBounds_toArray, List.set_cons_zero, List.set_cons_succ]
        rfl
      refine one_ (i := 5) (N := some 41) #[true, true, true, true, true, true, false, true, false] rfl rfl (by kernel_rfl) (by decide) (fun K hK => ?_)
      refine goes_ Try.func47 (by kernel_rfl) rfl #[.slice A3 d.objs.length c3] (by rfl) rfl rfl (by (try simp only [List.map_toArray, List.map_cons, List.map_nil]); first | done | rfl) ?_
      refine (clone_calls A3 c3 d.objs _ ((HP.out.below (below_then HW0.out HW0.out.size HB3.out)).h3) (by omega)).mono ?_
      rintro e wC ⟨vv, rfl, hR, hb⟩
      obtain ⟨Ay, cy, rfl⟩ := Kd.R_slice hR
      refine ⟨_, rfl, ?_⟩
      have HB4 := Aside0.mk (below_then HB3.out HB3.out.size hb)
      have HS3 := Aside0.mk (HS3.out.below hb)
      have HA := Aside0.mk (Kd.R_below HA.out hb)
      have HC := Aside0.mk (Kd.R_lower hR (Nat.le_trans HW0.out.size HB3.out.size))
      clear hR hb
      refine hK.out _ _ ⟨pw_cell_below HB4.out (HB0.out.cell 0), pw_cell_below HB4.out (HB0.out.cell 3)⟩ (fun hHeld => ?_)
      clear hK K
      refine norm_ (a' := ?_) ?_ ?_
      rotate_left
      · show Act.put _ (some 41) _ = _
        simp only [Act.put, List.setIfInBounds_toArray, List.set_cons_zero, List.set_cons_succ]
        rfl
      refine pure_ (i := 6) (N := some 42) (v := ?_) (a' := ?_) #[true, true, true, true, true, true, true, true, false] rfl rfl (by kernel_rfl) (fun _ _ _ h => h) (Or.inl ⟨by rfl, ?_⟩) ?_ ?_
      rotate_left
      · intro w'
        go_simp
        with_reducible rfl
      rotate_left
      · simp only [Act.put, List.setIfInBounds_toArray, List.set_cons_zero, List.set_cons_succ]
        rfl
      refine last_ (i := 8) (N := none) #[true, true, true, true, true, true, true, true, true] rfl rfl (by kernel_rfl) (by decide) (fun K hK => ?_)
      have hst := run_storeAt_mid (P := Try.prog) wC g3 0 26 (gV (.slice Ax d.acts.length cx) (.slice none 0 0) (.slice Ay d.objs.length cy) (.slice none 0 0) (.slice none 0 0) (.slice none 0 0)) (Stays.there (cs := #[.slice none 0 0, .slice none 0 0, .slice none 0 0, .slice none 0 0, .slice none 0 0, .slice none 0 0]) HS3.out) i26 (by simp [gV, Value.oneCell'])
      refine GDiffer.step_skip (w' := World.setCells wC g3 0 (gV (.slice Ax d.acts.length cx) (.slice none 0 0) (.slice Ay d.objs.length cy) (.slice none 0 0) (.slice none 0 0) (.slice none 0 0)).toList) rfl rfl (by first | (simp [execOp, Act.eval, hst]; done) | (show Sem.run Try.prog _ _ = _; simp only [execOp, Act.eval]; simp; rw [hst]; rfl)) ?_
      refine hK.out _ _ ?_
      clear hK K hst
      refine done_ (by kernel_rfl) ?_
      have hS3 := setCells_var (vs := (gV (.slice Ax d.acts.length cx) (.slice none 0 0) (.slice Ay d.objs.length cy) (.slice none 0 0) (.slice none 0 0) (.slice none 0 0))) HS3.out rfl
      have hbb := setCells_below HB4.out HLE.out (gV (.slice Ax d.acts.length cx) (.slice none 0 0) (.slice Ay d.objs.length cy) (.slice none 0 0) (.slice none 0 0) (.slice none 0 0)).toList
      have hRA := R_setCells HA.out HS3.out (by decide) (gV (.slice Ax d.acts.length cx) (.slice none 0 0) (.slice Ay d.objs.length cy) (.slice none 0 0) (.slice none 0 0) (.slice none 0 0)).toList
      have hRC := R_setCells HC.out HS3.out (by decide) (gV (.slice Ax d.acts.length cx) (.slice none 0 0) (.slice Ay d.objs.length cy) (.slice none 0 0) (.slice none 0 0) (.slice none 0 0)).toList
      have HF := Aside0.mk (And.intro hS3 (And.intro hbb (And.intro hRA hRC)))
      clear hS3 hbb hRA hRC hHeld
      go_wp2
      go_meet
      exact ⟨g3, _, _, rfl, HG3, ⟨HF.out.1⟩, ⟨HF.out.2.2.1⟩, ⟨HF.out.2.2.2⟩, ⟨HF.out.2.1⟩⟩
  case rest =>
    obtain ⟨g3, u0, u2, rfl, HG3, HS3, HU0, HU2, HWX⟩ := hcut
    obtain ⟨wx, hwx⟩ : ∃ wx : World, wx = wc := ⟨_, rfl⟩
    subst hwx
    have HBX := Aside0.mk (below_then HW0.out HW0.out.size HWX.out)
    have HB1 := Aside0.mk (HB0.out.below HWX.out)
    have HV1 := Aside0.mk (HV0.out.below HWX.out)
    go_upto_region 5 with (first | ((with_reducible refine gate_dst (N := 43) rfl ?_); refine wpList_load_blk rfl 39 (.tmp 1) rfl w.heap.size ?hx #[.slice A0 d.acts.length c0, .slice A1 d.subs.length c1, .slice A2 d.roles.length c2, .slice A3 d.objs.length c3, .slice A4 d.grps.length c4, .slice A5 d.mem.length c5, .slice A6 d.inh.length c6, .slice A7 d.par.length c7, .slice A8 d.wit.length c8, .slice A9 d.rules.length c9, .slice A10 d.exc.length c10] 39 HB1.out _ Try.underlying39 rfl i39 ?_; (case hx => rfl)) | (go_at_call 48; (refine (masks_calls (Pol.mk d A0 c0 A1 c1 A2 c2 A3 c3 A4 c4 A5 c5 A6 c6 A7 c7 A8 c8 A9 c9 A10 c10) _ (HP.out.below HBX.out) HD.out hs ho ha).mono ?_); rintro e w2 ⟨ga, f, nf, L, rfl, hM, hA, hsp, hge, hb⟩; have HB2 := Aside0.mk (HB1.out.below hb); have HV2 := Aside0.mk (HV1.out.below hb); have HS2 := Aside0.mk (HS3.out.below hb); have HU0' := Aside0.mk (Kd.R_below HU0.out hb); have HU2' := Aside0.mk (Kd.R_below HU2.out hb); have HM := Aside0.mk hM; have HAL := Aside0.mk hA; have HSP := Aside0.mk hsp; have HW2 := Aside0.mk (below_then HBX.out HBX.out.size hb); clear hM hA hsp hge hb))
    clear HU0 HU2 HS3 HV1 HB1 HBX HWX
    obtain ⟨n, hn⟩ : ∃ n, n = d.subs.length := ⟨_, rfl⟩
    have e1 := HB2.out.cell 1
    have e3 := HB2.out.cell 3
    simp only [List.getElem?_toArray, List.getElem?_cons_zero, List.getElem?_cons_succ] at e1 e3
    have hmk := make_lines d.subs.length hs
    have hmk' := make_lines d.objs.length ho
    clear hn n
    go_cut [5, 6] (fun v5 v6 wy => ∃ gr gc, v5 = .slice (some ⟨gr, 0, none⟩) d.subs.length d.subs.length ∧ v6 = .slice (some ⟨gc, 0, none⟩) d.objs.length d.objs.length ∧ Aside0 (gr ≠ gc) ∧ Aside0 (w2.heap.size ≤ gr) ∧ Aside0 (w2.heap.size ≤ gc) ∧ Aside0 (Blk wy gr d.subs.length (fun _ _ => 0)) ∧ Aside0 (Blk wy gc d.objs.length (fun _ _ => 0)) ∧ Aside0 (Below w2.heap.size w2 wy))
    case first =>
      have hltw : w.heap.size < w2.heap.size := (Array.getElem?_eq_some_iff.1 HB2.out).1
      have x1 := fun (o : Obj) => (HB2.out.below (below_alloc (Below.refl _ w2) o)).cell 1
      have x3 := fun (o : Obj) => (HB2.out.below (below_alloc (Below.refl _ w2) o)).cell 3
      simp only [List.getElem?_toArray, List.getElem?_cons_zero, List.getElem?_cons_succ] at x1 x3
      go_region
      all_goals (go_wp2_with fail; go_meet)
      all_goals first
        | exact ⟨_, _, rfl, rfl, ⟨by omega⟩, ⟨Nat.le_refl _⟩, ⟨Nat.le_succ _⟩, ⟨(made_two w2 d.subs.length d.objs.length).1⟩, ⟨(made_two w2 d.subs.length d.objs.length).2.1⟩, ⟨(made_two w2 d.subs.length d.objs.length).2.2⟩⟩
        | exact ⟨_, _, rfl, rfl, ⟨by omega⟩, ⟨Nat.le_succ _⟩, ⟨Nat.le_refl _⟩, ⟨(made_two w2 d.objs.length d.subs.length).2.1⟩, ⟨(made_two w2 d.objs.length d.subs.length).1⟩, ⟨(made_two w2 d.objs.length d.subs.length).2.2⟩⟩
    case rest =>
      obtain ⟨gr, gc, rfl, rfl, HNE, HGR, HGC, HRR, HCC, HBY⟩ := hcut
      obtain ⟨WB, hWB⟩ : ∃ WB : World, WB = wc := ⟨_, rfl⟩
      subst hWB
      clear hmk hmk' e1 e3
      have hlt3 := (Array.getElem?_eq_some_iff.1 HS2.out).1
      have HN1 := Aside0.mk (show gr ≠ g3 by have := HGR.out; omega)
      have HN2 := Aside0.mk (show gc ≠ g3 by have := HGC.out; omega)
      have HLT2 := Aside0.mk (show w.heap.size < w2.heap.size from (Array.getElem?_eq_some_iff.1 HB2.out).1)
      have HN39 := Aside0.mk (show ¬ S3 g3 gr gc w.heap.size by have h1 := HG3.out; have h2 := HGV.out; have h3 := HGR.out; have h4 := HGC.out; have h5 := HLT2.out; rintro (e | e | e) <;> omega)
      have HLTV := Aside0.mk (show gv < w2.heap.size from (Array.getElem?_eq_some_iff.1 HV2.out).1)
      have HN26 := Aside0.mk (show ¬ S3 g3 gr gc gv by have h1 := HG3.out; have h3 := HGR.out; have h4 := HGC.out; have h5 := HLTV.out; rintro (e | e | e) <;> omega)
      have HNGA := Aside0.mk (show ¬ S3 g3 gr gc ga by have h1 := HM.out.lt; have h3 := HGR.out; have h4 := HGC.out; have h5 := map_ne HM.out HS2.out; rintro (e | e | e) <;> omega)
      have HB3 := Aside0.mk (HB2.out.below HBY.out)
      have HV3 := Aside0.mk (HV2.out.below HBY.out)
      have HM3 := Aside0.mk (HM.out.below HBY.out)
      have HW3 := Aside0.mk (below_then HW2.out HW2.out.size HBY.out)
      have HU0b := Aside0.mk (Kd.R_mono (Kd.R_bound (Kd.R_below HU0'.out HBY.out)) (ok' := fun b => ¬ S3 g3 gr gc b) (fun k hk e => by
        obtain ⟨-, -, -, q, hq, cells, hc⟩ := hk
        have hq9 : q = 9 := by simpa [Kd.string, Kd.scalar] using hq
        subst hq9
        rcases e with e | e | e
        · subst e; have h := HS2.out.below HBY.out; rw [show WB.heap[k]? = _ from h] at hc; cases hc
        · subst e; obtain ⟨c, h, _⟩ := HRR.out; rw [h] at hc; cases hc
        · subst e; obtain ⟨c, h, _⟩ := HCC.out; rw [h] at hc; cases hc))
      have HU2b := Aside0.mk (Kd.R_mono (Kd.R_bound (Kd.R_below HU2'.out HBY.out)) (ok' := fun b => ¬ S3 g3 gr gc b) (fun k hk e => by
        obtain ⟨-, -, -, q, hq, cells, hc⟩ := hk
        have hq9 : q = 9 := by simpa [Kd.string, Kd.scalar] using hq
        subst hq9
        rcases e with e | e | e
        · subst e; have h := HS2.out.below HBY.out; rw [show WB.heap[k]? = _ from h] at hc; cases hc
        · subst e; obtain ⟨c, h, _⟩ := HRR.out; rw [h] at hc; cases hc
        · subst e; obtain ⟨c, h, _⟩ := HCC.out; rw [h] at hc; cases hc))
      have HLP := Aside0.mk (show Lp d g3 gr gc WB WB u0 (.slice none 0 0) u2 [] 0 0 from ⟨Same.refl _ _, HS2.out.below HBY.out, Kd.R_nil _ _ _ _ _, HRR.out.congr fun a b _ _ => (prt_zero _ a b).symm, HCC.out.congr fun b a _ _ => (prt_zero _ a b).symm⟩)
      clear HU0' HU2' HM HB2 HV2 HS2 HW2 HRR HCC hlt3
      have e1 := HB3.out.cell 1
      simp only [List.getElem?_toArray, List.getElem?_cons_zero, List.getElem?_cons_succ] at e1
      go_wp2
      clear e1
      go_loopw [56] (fun u56 wr => ∃ (i : Nat) (v1 : Value), i ≤ d.subs.length ∧ u56 = .int .i64 i ∧ Aside0 (Lp d g3 gr gc WB wr u0 v1 u2 ((d.subs.map (·.f0)).take i) i 0)) (fun u56 _ => d.subs.length - (intOf u56).toNat)
      case atStart => exact ⟨0, _, Nat.zero_le _, rfl, HLP⟩
      case round =>
        obtain ⟨i, v1, hi, rfl, HL⟩ := hrel
        have hS3w : ∀ k, S3 g3 gr gc k → w.heap.size ≤ k := fun k hk => by
          have h1 := HG3.out; have h2 := HGV.out; have h3 := HGR.out; have h4 := HGC.out; have h5 := HLT2.out
          rcases hk with e | e | e <;> omega
        have HSW := Aside0.mk hS3w
        clear hS3w
        have hpin := HP.out.below (HL.out.same.below HW3.out HSW.out)
        by_cases hlt : i < d.subs.length
        · obtain ⟨ad, ea, hx0, hx1⟩ := at_T54 hpin.h1 (i : Int) (by omega) (by simp only []; omega)
          have hget : rd_T54 d.subs (i : Int) = d.subs[i] := by simp [rd_T54, hlt]
          simp only [hget, Int.toNat_natCast] at hx0 hx1
          have ea : A1 = some ad := ea
          subst ea
          have htk : (d.subs.map (·.f0)).take (i + 1) = (d.subs.map (·.f0)).take i ++ [d.subs[i].f0] := by
            have h := List.take_succ_eq_append_getElem (l := d.subs.map (·.f0)) (i := i) (by simpa using hlt)
            simpa using h
          have hnm : (d.subs.map (·.f0)).getD i ⟨#[]⟩ = d.subs[i].f0 := by simp [hlt]
          have hin : d.subs[i] ∈ d.subs := List.getElem_mem hlt
          have hlen : ((d.subs.map (·.f0)).take i).length = i := by rw [List.length_take, List.length_map]; omega
          obtain ⟨x, hxx⟩ : ∃ x, x = d.subs[i] := ⟨_, rfl⟩
          rw [← hxx] at hx0 hx1 htk hin hnm
          have HTK := Aside0.mk htk
          have HIN := Aside0.mk hin
          have HNM := Aside0.mk hnm
          have HLIM := Aside0.mk (show (((d.subs.map (·.f0)).take i).length + 1) * 16 ≤ 140737488355328 by omega)
          have c0' : (i : Int) < d.subs.length := by omega
          have hcw : ∀ (j : Nat) (v : Value), ([.string x.f0, .float .f64 x.f1] : List Value)[j]? = some v → wr.cell? ((ad.add (i * 2)).add j) = some v := by
            intro j v hj
            have hj2 : j < 2 := (List.getElem?_eq_some_iff.1 hj).1
            have : j = 0 ∨ j = 1 := by omega
            rcases this with rfl | rfl
            · obtain rfl : Value.string x.f0 = v := by simpa using hj
              rw [Addr.add_zero']; exact hx0
            · obtain rfl : Value.float .f64 x.f1 = v := by simpa using hj
              rw [add_add, add_field _ _ 1 (by omega)]; exact hx1
          have HCW := Aside0.mk hcw
          obtain ⟨ns, hns⟩ : ∃ ns, ns = (d.subs.map (·.f0)).take i := ⟨_, rfl⟩
          rw [← hns] at HTK HL HLIM
          have hz := MPol.z54
          clear hx0 hx1 hget htk hin hxx hcw hpin hnm hlen hns
          go_upto_region 9 with (first | ((with_reducible refine gate_dst (N := 60) rfl ?_); refine wpList_load_at rfl 54 (.tmp 59) rfl (ad.add (i * 2)) ?hx [.string x.f0, .float .f64 x.f1] HCW.out _ Try.underlying54 rfl i54 ?_; (case hx => rfl)) | ((with_reducible refine gate_store (t := 54) (p := 8) (v := .tmp 60) rfl ?_); refine wpList_store_var rfl 54 (.tmp 8) (.tmp 60) rfl wr.heap.size #[.string x.f0, .float .f64 x.f1] ?hx ?hy (cs := #[.string ⟨#[]⟩, .float .f64 0]) (t := 54) (heap_alloc_new wr _) rfl i54 (by simp [Value.oneCell']) ?_; (case hx => rfl); (case hy => rfl)))
          (try simp only [Act.put])
          clear hz
          have hb2 : Below wr.heap.size wr ((wr.alloc (.cells #[.string ⟨#[]⟩, .float .f64 0] 54)).setCells wr.heap.size 0 [.string x.f0, .float .f64 x.f1]) := setCells_below (below_alloc (Below.refl _ _) _) (Nat.le_refl _) _
          have hS2 : Stays ((wr.alloc (.cells #[.string ⟨#[]⟩, .float .f64 0] 54)).setCells wr.heap.size 0 [.string x.f0, .float .f64 x.f1]) wr.heap.size #[.string x.f0, .float .f64 x.f1] 54 := setCells_var (vs := #[.string x.f0, .float .f64 x.f1]) (heap_alloc_new wr _) rfl
          have hL2 := HL.out.move hb2
          obtain ⟨W2, hW2⟩ : ∃ W2, W2 = ((wr.alloc (.cells #[.string ⟨#[]⟩, .float .f64 0] 54)).setCells wr.heap.size 0 [.string x.f0, .float .f64 x.f1]) := ⟨_, rfl⟩
          obtain ⟨g8, hg8⟩ : ∃ g8, g8 = wr.heap.size := ⟨_, rfl⟩
          have hg8s : WB.heap.size ≤ g8 := by rw [hg8]; exact HL.out.same.size
          rw [← hW2] at hS2 hL2 ⊢
          rw [← hg8] at hS2 ⊢
          have HS8 := Aside0.mk hS2
          have HL2 := Aside0.mk hL2
          have HG8 := Aside0.mk hg8s
          have x8 := hS2.cell 0
          simp only [List.getElem?_toArray, List.getElem?_cons_zero] at x8
          have x3 := hL2.g.cell 1
          simp only [gV, List.getElem?_toArray, List.getElem?_cons_zero, List.getElem?_cons_succ] at x3
          clear hb2 hS2 hL2 hW2 hg8 hg8s HL
          go_upto_region 10 with (first | ((with_reducible refine gate_builtin (b := .append) (xs := #[.tmp 62, .tmp 65]) rfl ?_); at_builtin; refine Kd.R_append Kd.string (w0 := W2) WB.heap.size rfl (.tmp 62) (.tmp 65) 22 9 (.string ⟨#[]⟩) 16 rfl Try.underlying22 info9 rfl (by decide) (by decide) v1 ns x.f0 [.string x.f0] (fun _ => True) (fun _ => False) rfl rfl rfl (fun _ hk => hk.elim) (fun _ _ => trivial) HL2.out.r1 (Below.refl _ _) HL2.out.same.size HLIM.out ?_; intro v9 w9 hR9 hB9 hg9 hat9; have HL9 := Aside0.mk (HL2.out.app hR9 hg9 HN1.out HN2.out); have HS9 := Aside0.mk (show Stays w9 g8 #[.string x.f0, .float .f64 x.f1] 54 from (hg9.block _ (Array.getElem?_eq_some_iff.1 HS8.out).1 (Kd.R_ne HL2.out.r1 HS8.out (by decide))).trans HS8.out); have hG9 : Stays w9 g3 (gV u0 v1 u2 (.slice none 0 0) (.slice none 0 0) (.slice none 0 0)) 26 := (hg9.block _ (Array.getElem?_eq_some_iff.1 HL2.out.g).1 (Kd.R_ne HL2.out.r1 HL2.out.g (by decide))).trans HL2.out.g; have x9 := hG9.cell 1; simp only [gV, List.getElem?_toArray, List.getElem?_cons_zero, List.getElem?_cons_succ] at x9; have f9 : w9.frozen? ⟨g3, 1, none⟩ = false := frozen_of_row _ _ _ _ _ hG9; obtain ⟨A9x, c9x, e9⟩ := Kd.R_slice hR9; obtain ⟨nn, hnn⟩ : ∃ nn, nn = (ns ++ [x.f0]).length := ⟨_, rfl⟩; rw [← hnn] at e9; subst e9; clear hR9 hB9 hg9 hat9 hG9 hnn))
          clear x8 x3 x9 f9
          have HN8 := Aside0.mk (show g8 ≠ g3 by have h1 := HG8.out; have h2 := (Array.getElem?_eq_some_iff.1 HLP.out.g).1; omega)
          have hS10 := stays_far HS9.out (a := ⟨g3, 1, none⟩) (by exact HN8.out) (.slice A9x nn c9x)
          have hL10 := HL9.out
          rw [← HTK.out] at hL10
          obtain ⟨v10, hv10⟩ : ∃ v10, v10 = Value.slice A9x nn c9x := ⟨_, rfl⟩
          rw [← hv10] at hL10 hS10 ⊢
          obtain ⟨W10, hW10⟩ : ∃ W10, W10 = w9.setCell ⟨g3, 1, none⟩ v10 := ⟨_, rfl⟩
          rw [← hW10] at hL10 hS10 ⊢
          have HL10 := Aside0.mk hL10
          have HS10 := Aside0.mk hS10
          clear hL10 hS10 hv10 hW10 HL9 HS9 HS8 HL2 HLIM HTK
          have e3 := (HL10.out.same.stays HB3.out HN39.out).cell 3
          simp only [List.getElem?_toArray, List.getElem?_cons_zero, List.getElem?_cons_succ] at e3
          go_wp2
          clear e3
          go_loopw [71] (fun u71 wr => ∃ j : Nat, j ≤ d.objs.length ∧ u71 = .int .i64 j ∧ Aside0 (Lp d g3 gr gc WB wr u0 v10 u2 ((d.subs.map (·.f0)).take (i + 1)) i j) ∧ Aside0 (Stays wr g8 #[.string x.f0, .float .f64 x.f1] 54)) (fun u71 _ => d.objs.length - (intOf u71).toNat)
          case atStart => exact ⟨0, Nat.zero_le _, rfl, HL10, HS10⟩
          case round =>
            obtain ⟨j, hj, rfl, HLj, HSj⟩ := hrel
            have hpin := HP.out.below (HLj.out.same.below HW3.out HSW.out)
            by_cases hltj : j < d.objs.length
            · obtain ⟨ado, eo, hxo⟩ := Kd.at_string hpin.h3 (j : Int) (by omega) (by simp only []; omega)
              have eo : A3 = some ado := eo
              subst eo
              have hget : rdOf ByteArray.empty d.objs (j : Int) = d.objs[j] := by simp [rdOf, hltj]
              simp only [hget, Int.toNat_natCast] at hxo
              have hom : d.objs.getD j ⟨#[]⟩ = d.objs[j] := by simp [hltj]
              have hoin : d.objs[j] ∈ d.objs := List.getElem_mem hltj
              obtain ⟨o, hoo⟩ : ∃ o, o = d.objs[j] := ⟨_, rfl⟩
              rw [← hoo] at hxo hom hoin
              have hval := alls_mask HAL.out HSP.out ha ⟨x, HIN.out, rfl⟩ o
              have hq : fill d.objs.length (matD d) i j = ((maskD d x.f0 o : Nat) : Int) := by
                unfold fill matD
                rw [if_pos hltj, HNM.out, hom]
              have hlk := pair_look (HLj.out.same.map HM3.out HNGA.out) (p := (x.f0, o)) ⟨HD.out.subs x HIN.out, HD.out.objs o hoin⟩
              rw [hval] at hlk
              simp only [] at hlk
              obtain ⟨q, hqe⟩ : ∃ q : Int, q = ((maskD d x.f0 o : Nat) : Int) := ⟨_, rfl⟩
              rw [← hqe] at hlk hq
              have HQ := Aside0.mk hq
              have x8 := HSj.out.cell 0
              simp only [List.getElem?_toArray, List.getElem?_cons_zero] at x8
              have c0'' : (j : Int) < d.objs.length := by omega
              clear hpin hget hom hoin hoo hval hqe hq
              go_upto_region 14 with fail
              clear hlk x8 hxo
              have n1 : j < 64 := by omega
              have n2 : i < 64 := by omega
              have hc1 := HLj.out.rows.cell (i := i) (j := j) hlt n1
              have hc2 := HLj.out.cols.cell (i := j) (j := i) hltj n2
              have hf1 := HLj.out.rows.frozen (i * 64 + j)
              have hf2 := HLj.out.cols.frozen (j * 64 + i)
              have hne := HNE.out
              go_region
              go_wp2
              go_roundw
              case rel => exact ⟨j + 1, by omega, by go_num, ⟨HLj.out.put HNE.out HN1.out HN2.out n2 n1 q HQ.out⟩, ⟨stays_far (stays_far HSj.out (by show g8 ≠ gr; have h1 := HG8.out; have h2 := HLP.out.rows.lt; omega) _) (by show g8 ≠ gc; have h1 := HG8.out; have h2 := HLP.out.cols.lt; omega) _⟩⟩
              case measure => simp [intOf]; omega
            · have hjj : j = d.objs.length := by omega
              subst hjj
              clear hpin
              go_wp2
              go_roundw
              case rel => exact ⟨i + 1, v10, by omega, by go_num, ⟨HLj.out.nextRow⟩⟩
              case measure => simp [intOf]; omega
        · have hii : i = d.subs.length := by omega
          subst hii
          have hl := HL.out
          rw [List.take_of_length_le (by simp)] at hl
          have HLF := Aside0.mk hl
          clear hl HL hpin
          obtain ⟨w5, hw5⟩ : ∃ w5, w5 = wr := ⟨_, rfl⟩
          subst hw5
          have hRows : Blk w5 gr d.subs.length (fill d.objs.length (matD d)) := HLF.out.rows.congr fun a b h _ => prt_all _ _ a b h
          have hCols : Blk w5 gc d.objs.length (fill d.subs.length (fun j i => matD d i j)) := HLF.out.cols.congr fun b a h _ => prt_cols _ _ _ b a h
          have HRW := Aside0.mk hRows
          have HCL := Aside0.mk hCols
          have HW5 := Aside0.mk (HLF.out.same.below HW3.out HSW.out)
          have HW3' := Aside0.mk HW3.out.size
          have HV5 := Aside0.mk (HLF.out.same.stays HV3.out HN26.out)
          have HG5 := Aside0.mk HLF.out.g
          have HU0c := Aside0.mk (HLF.out.same.toR HU0b.out (fun _ h => h))
          have HU2c := Aside0.mk (HLF.out.same.toR HU2b.out (fun _ h => h))
          have HU1c := Aside0.mk HLF.out.r1
          have HRC := Aside0.mk (Blk.C hRows (by omega))
          have HRK := Aside0.mk (linesOf_ok (n := d.subs.length) (F := fill d.objs.length (matD d)) (fun a b _ _ => fill_u16 (matD_u16 d ha) a b))
          clear hRows hCols HLF HLP HB3 HV3 HU0b HU2b HW3 HBY HSW HM3 HAL HSP HGC HNGA HN39
          go_upto_region 19 with (first | (go_at_call 49; ((with_reducible refine (classes_to (some ⟨gr, 0, none⟩) d.subs.length (linesOf d.subs.length (fill d.objs.length (matD d))) _ d.subs.length (linesOf_length _ _) HRC.out HRK.out hs).mono ?_)); rintro e w6 ⟨v4, v5, rfl, hr4, hr5, hb⟩; obtain ⟨A4', c4', e4⟩ := Kd.R_slice hr4; obtain ⟨A5', c5', e5⟩ := Kd.R_slice hr5; obtain ⟨n4, hn4⟩ : ∃ n4, n4 = (numsOf (linesOf d.subs.length (fill d.objs.length (matD d)))).length := ⟨_, rfl⟩; obtain ⟨n5, hn5⟩ : ∃ n5, n5 = (firstsOf (linesOf d.subs.length (fill d.objs.length (matD d)))).length := ⟨_, rfl⟩; rw [← hn4] at e4; rw [← hn5] at e5; subst e4; subst e5; have hG6 := HG5.out.below hb; have x9 := hG6.cell 3; simp only [gV, List.getElem?_toArray, List.getElem?_cons_zero, List.getElem?_cons_succ] at x9; have f9 : w6.frozen? ⟨g3, 3, none⟩ = false := frozen_of_row _ _ _ _ _ hG6; have HG6 := Aside0.mk hG6; have HR4 := Aside0.mk hr4; have HR5 := Aside0.mk hr5; have HB6 := Aside0.mk hb; have HN5 := Aside0.mk hn5; clear hr4 hr5 hb hG6 hn4 hn5))
          clear x9 f9
          have hg6 := stays_set HG6.out 3 (.slice A4' n4 c4')
          have hg6 : Stays (w6.setCell ⟨g3, 3, none⟩ (.slice A4' n4 c4')) g3 (gV u0 v1 u2 (.slice A4' n4 c4') (.slice none 0 0) (.slice none 0 0)) 26 := hg6
          have hs6 := (Same.of_below (S := S1 g3) HB6.out).set (a := ⟨g3, 3, none⟩) (.inl rfl) (.slice A4' n4 c4')
          have hr4 := R_set HR4.out HG6.out (by decide) 3 (.slice A4' n4 c4')
          have hr5 := R_set HR5.out HG6.out (by decide) 3 (.slice A4' n4 c4')
          obtain ⟨v4, hv4⟩ : ∃ v4, v4 = Value.slice A4' n4 c4' := ⟨_, rfl⟩
          rw [← hv4] at hg6 hs6 hr4 hr5 ⊢
          obtain ⟨W6, hW6⟩ : ∃ W6, W6 = w6.setCell ⟨g3, 3, none⟩ v4 := ⟨_, rfl⟩
          rw [← hW6] at hg6 hs6 hr4 hr5 ⊢
          have HG6 := Aside0.mk hg6
          have HS6 := Aside0.mk hs6
          have HR4 := Aside0.mk hr4
          have HR5 := Aside0.mk hr5
          have hCB := hs6.blk HCL.out (by have h := HN2.out; exact h)
          have HRC := Aside0.mk (Blk.C hCB (by omega))
          have HRK := Aside0.mk (linesOf_ok (n := d.objs.length) (F := fill d.subs.length (fun j i => matD d i j)) (fun a b _ _ => fill_u16 (fun j i => matD_u16 d ha i j) a b))
          clear hg6 hs6 hr4 hr5 hv4 hW6 hCB HB6
          go_upto_region 20 with (first | (go_at_call 49; ((with_reducible refine (classes_to (some ⟨gc, 0, none⟩) d.objs.length (linesOf d.objs.length (fill d.subs.length (fun j i => matD d i j))) _ d.objs.length (linesOf_length _ _) HRC.out HRK.out ho).mono ?_)); rintro e w7 ⟨v6, v7, rfl, hr6, hr7, hb⟩; obtain ⟨A6', c6', e6⟩ := Kd.R_slice hr6; obtain ⟨A7', c7', e7⟩ := Kd.R_slice hr7; obtain ⟨n6, hn6⟩ : ∃ n6, n6 = (numsOf (linesOf d.objs.length (fill d.subs.length (fun j i => matD d i j)))).length := ⟨_, rfl⟩; obtain ⟨n7, hn7⟩ : ∃ n7, n7 = (firstsOf (linesOf d.objs.length (fill d.subs.length (fun j i => matD d i j)))).length := ⟨_, rfl⟩; rw [← hn6] at e6; rw [← hn7] at e7; subst e6; subst e7; have hG7 := HG6.out.below hb; have x9 := hG7.cell 4; simp only [gV, List.getElem?_toArray, List.getElem?_cons_zero, List.getElem?_cons_succ] at x9; have f9 : w7.frozen? ⟨g3, 4, none⟩ = false := frozen_of_row _ _ _ _ _ hG7; have HG7 := Aside0.mk hG7; have HR6 := Aside0.mk hr6; have HR7 := Aside0.mk hr7; have HB7 := Aside0.mk hb; have HN7 := Aside0.mk hn7; clear hr6 hr7 hb hG7 hn6 hn7))
          clear x9 f9
          have hg7 := stays_set HG7.out 4 (.slice A6' n6 c6')
          have hg7 : Stays (w7.setCell ⟨g3, 4, none⟩ (.slice A6' n6 c6')) g3 (gV u0 v1 u2 v4 (.slice A6' n6 c6') (.slice none 0 0)) 26 := hg7
          have hs7 := (HS6.out.move HB7.out).set (a := ⟨g3, 4, none⟩) (.inl rfl) (.slice A6' n6 c6')
          have hr6 := R_set HR6.out HG7.out (by decide) 4 (.slice A6' n6 c6')
          have hr7 := R_set HR7.out HG7.out (by decide) 4 (.slice A6' n6 c6')
          have hr4 := R_set (Kd.R_below HR4.out HB7.out) HG7.out (by decide) 4 (.slice A6' n6 c6')
          have hr5 := R_set (Kd.R_below HR5.out HB7.out) HG7.out (by decide) 4 (.slice A6' n6 c6')
          have hr0 := hs7.toR (offG HU0c.out HG5.out (by decide)) (fun _ h => h)
          have hr1 := hs7.toR (offG HU1c.out HG5.out (by decide)) (fun _ h => h)
          have hr2 := hs7.toR (offG HU2c.out HG5.out (by decide)) (fun _ h => h)
          have hv7 := hs7.stays HV5.out (by have h1 := HG3.out; intro e; have e : gv = g3 := e; omega)
          have hrr := hs7.blk HRW.out (by have h := HN1.out; exact h)
          have hb7 := hs7.below HW5.out (fun k hk => by have h1 := HG3.out; have h2 := HGV.out; have hk : k = g3 := hk; omega)
          obtain ⟨v6, hv6⟩ : ∃ v6, v6 = Value.slice A6' n6 c6' := ⟨_, rfl⟩
          rw [← hv6] at hg7 hr6 hr7 hr4 hr5 hr0 hr1 hr2 hv7 hrr hb7 hs7 ⊢
          obtain ⟨W7, hW7⟩ : ∃ W7, W7 = w7.setCell ⟨g3, 4, none⟩ v6 := ⟨_, rfl⟩
          rw [← hW7] at hg7 hr6 hr7 hr4 hr5 hr0 hr1 hr2 hv7 hrr hb7 hs7 ⊢
          have hb56 := hs7.size
          have HR0 := Aside0.mk (offG hr0 hg7 (by decide))
          have HR1 := Aside0.mk (Kd.R_lower (offG hr1 hg7 (by decide)) (HW3'.out))
          have HR2 := Aside0.mk (offG hr2 hg7 (by decide))
          have HR4 := Aside0.mk (Kd.R_lower (offG hr4 hg7 (by decide)) HW5.out.size)
          have HR5 := Aside0.mk (Kd.R_lower (offG hr5 hg7 (by decide)) HW5.out.size)
          have HR6 := Aside0.mk (Kd.R_lower (offG hr6 hg7 (by decide)) (Nat.le_trans HW5.out.size HS6.out.size))
          have HR7 := Aside0.mk (Kd.R_lower (offG hr7 hg7 (by decide)) (Nat.le_trans HW5.out.size HS6.out.size))
          have HMK := Aside0.mk (show Mk g3 W7 W7 u0 v1 u2 v4 v6 (.slice none 0 0) [] from ⟨Same.refl _ _, hg7, Kd.R_nil _ _ _ _ _⟩)
          have HV7 := Aside0.mk hv7
          have HRR := Aside0.mk hrr
          have HW7 := Aside0.mk hb7
          clear hg7 hr6 hr7 hr4 hr5 hr0 hr1 hr2 hv7 hrr hb7 hs7 hb56 hv6 hW7 HG7 HB7 HS6 HG6 HRC HRK HU0c HU1c HU2c HV5 HG5 HRW HCL HW5
          obtain ⟨WN, hWN⟩ : ∃ WN, WN = firstsN (linesOf d.subs.length (fill d.objs.length (matD d))) := ⟨_, rfl⟩
          obtain ⟨CN, hCN⟩ : ∃ CN, CN = firstsN (linesOf d.objs.length (fill d.subs.length (fun j i => matD d i j))) := ⟨_, rfl⟩
          have hW1 : firstsOf (linesOf d.subs.length (fill d.objs.length (matD d))) = WN.map (fun (n : Nat) => (n : Int)) := by rw [hWN]; rfl
          have hC1 : firstsOf (linesOf d.objs.length (fill d.subs.length (fun j i => matD d i j))) = CN.map (fun (n : Nat) => (n : Int)) := by rw [hCN]; rfl
          have hWlt : ∀ n ∈ WN, n < d.subs.length := fun n hn => by rw [hWN] at hn; have := firstsN_lt hn; rwa [linesOf_length] at this
          have hClt : ∀ n ∈ CN, n < d.objs.length := fun n hn => by rw [hCN] at hn; have := firstsN_lt hn; rwa [linesOf_length] at this
          have hMM : masksM d.subs.length d.objs.length (matD d) = WN.map (fun i => CN.map (fun j => matD d i j)) := by rw [hWN, hCN]; rfl
          have hn5 : n5 = WN.length := by rw [HN5.out, hW1, List.length_map]
          have hn7 : n7 = CN.length := by rw [HN7.out, hC1, List.length_map]
          have hn764 : n7 ≤ 64 := by
            have h1 := HN7.out
            rw [firstsOf_length] at h1
            have h2 := uniq_length (linesOf d.objs.length (fill d.subs.length (fun j i => matD d i j)))
            rw [linesOf_length] at h2
            omega
          have hn564 : n5 ≤ 64 := by
            have h1 := HN5.out
            rw [firstsOf_length] at h1
            have h2 := uniq_length (linesOf d.subs.length (fill d.objs.length (matD d)))
            rw [linesOf_length] at h2
            omega
          rw [hW1] at HR5
          rw [hC1] at HR7
          have HWLT := Aside0.mk hWlt
          have HCLT := Aside0.mk hClt
          have HMM := Aside0.mk hMM
          have HW5L := Aside0.mk hn5
          have HC7L := Aside0.mk hn7
          clear hWN hCN hW1 hC1 hWlt hClt hMM hn5 hn7 HN5 HN7
          go_wp2
          go_loopw [110] (fun u110 wr => ∃ (a : Nat) (vm : Value), a ≤ n5 ∧ u110 = .int .i64 a ∧ Aside0 (Mk g3 W7 wr u0 v1 u2 v4 v6 vm ((masksM d.subs.length d.objs.length (matD d)).take a))) (fun u110 _ => n5 - (intOf u110).toNat)
          case atStart => exact ⟨0, _, Nat.zero_le _, rfl, HMK⟩
          case round =>
            obtain ⟨a, vm, ha5, rfl, HA⟩ := hrel
            by_cases hlt5 : a < n5
            · have hC5 := (Kd.R_reads' (HA.out.same.toR HR5.out (fun _ h => h))).2.2
              have haw : a < WN.length := by rw [← HW5L.out]; exact hlt5
              obtain ⟨ad5, e5, hx5⟩ := Kd.at_int hC5 (a : Int) (by omega) (by rw [List.length_map]; omega)
              subst e5
              have hrd : rd (WN.map (fun (n : Nat) => (n : Int))) (a : Int) = ((WN[a] : Nat) : Int) := by simp [rd, haw]
              rw [hrd] at hx5
              simp only [Int.toNat_natCast] at hx5
              have hin := HWLT.out WN[a] (List.getElem_mem haw)
              have htk : (masksM d.subs.length d.objs.length (matD d)).take (a + 1) = (masksM d.subs.length d.objs.length (matD d)).take a ++ [CN.map (fun j => matD d WN[a] j)] := by
                rw [HMM.out]
                have h := List.take_succ_eq_append_getElem (l := WN.map (fun i => CN.map (fun j => matD d i j))) (i := a) (by simpa using haw)
                simpa using h
              have hmlen : ((masksM d.subs.length d.objs.length (matD d)).take a).length = a := by
                have h0 := HW5L.out; rw [List.length_take, HMM.out, List.length_map]; omega
              obtain ⟨i, hii⟩ : ∃ i, i = WN[a] := ⟨_, rfl⟩
              rw [← hii] at hx5 hin htk
              have HTK := Aside0.mk htk
              have HIN := Aside0.mk hin
              have HMLIM := Aside0.mk (show (((masksM d.subs.length d.objs.length (matD d)).take a).length + 1) * 24 ≤ 140737488355328 by omega)
              obtain ⟨ms, hms⟩ : ∃ ms, ms = (masksM d.subs.length d.objs.length (matD d)).take a := ⟨_, rfl⟩
              rw [← hms] at HA HMLIM HTK
              have hmk := make_row n7 hn764
              have c05 : (a : Int) < n5 := by omega
              clear hC5 haw hrd hin htk hmlen hii hms
              go_upto_region 24 with fail
              clear hmk hx5
              have hb8 := below_alloc (Below.refl _ wr) (.cells (madeCells #[.int .u16 0] n7) 31)
              have hr8 := row_none wr n7 hn764
              have hm8 := HA.out.move hb8
              have hms8 := Kd.R_below (Kd.R_mono (Kd.R_bound HA.out.ms) (ok' := fun b => b < wr.heap.size) (fun k hk => hk.2.2.1)) hb8
              have hle8 : W7.heap.size ≤ wr.heap.size := HA.out.same.size
              obtain ⟨vr, hvr⟩ : ∃ vr, vr = Value.slice (some ⟨wr.heap.size, 0, none⟩) 0 n7 := ⟨_, rfl⟩
              rw [← hvr] at hr8 ⊢
              obtain ⟨W8, hW8⟩ : ∃ W8, W8 = wr.alloc (.cells (madeCells #[.int .u16 0] n7) 31) := ⟨_, rfl⟩
              obtain ⟨B8, hB8⟩ : ∃ B8, B8 = wr.heap.size := ⟨_, rfl⟩
              rw [← hW8] at hr8 hm8 hms8 ⊢
              rw [← hB8] at hr8 hms8 hle8
              have HR8 := Aside0.mk hr8
              have HM8 := Aside0.mk hm8
              have HMS8 := Aside0.mk hms8
              have HLE8 := Aside0.mk hle8
              have HBW8 := Aside0.mk (show B8 ≤ W8.heap.size by rw [hB8, hW8]; exact hb8.size)
              clear hb8 hr8 hm8 hms8 hle8 hvr hW8 hB8 HA
              go_wp2
              go_loopw [16, 119] (fun u16 u119 wr => ∃ b : Nat, b ≤ n7 ∧ u119 = .int .i64 b ∧ Aside0 (Mk g3 W7 wr u0 v1 u2 v4 v6 vm ms) ∧ Aside0 (Kd.R (Kd.slice 31 (Kd.int .u16)) 32 wr W7.heap.size (fun b => b < B8) vm ms) ∧ Aside0 (Kd.R (Kd.int .u16) 31 wr B8 (fun _ => True) u16 ((CN.map (fun j => matD d i j)).take b)) ∧ Aside0 (B8 ≤ wr.heap.size)) (fun _ u119 _ => n7 - (intOf u119).toNat)
              case atStart => exact ⟨0, Nat.zero_le _, rfl, HM8, HMS8, HR8, HBW8⟩
              case round =>
                obtain ⟨b, hb7, rfl, HMb, HMSb, HRb, HLE9⟩ := hrel
                by_cases hltb : b < n7
                · have hC7 := (Kd.R_reads' (HMb.out.same.toR HR7.out (fun _ h => h))).2.2
                  have hbw : b < CN.length := by rw [← HC7L.out]; exact hltb
                  obtain ⟨ad7, e7, hx7⟩ := Kd.at_int hC7 (b : Int) (by omega) (by rw [List.length_map]; omega)
                  subst e7
                  have hrd : rd (CN.map (fun (n : Nat) => (n : Int))) (b : Int) = ((CN[b] : Nat) : Int) := by simp [rd, hbw]
                  rw [hrd] at hx7
                  simp only [Int.toNat_natCast] at hx7
                  have hjn := HCLT.out CN[b] (List.getElem_mem hbw)
                  have htk : (CN.map (fun j => matD d i j)).take (b + 1) = (CN.map (fun j => matD d i j)).take b ++ [matD d i CN[b]] := by
                    have h := List.take_succ_eq_append_getElem (l := CN.map (fun j => matD d i j)) (i := b) (by simpa using hbw)
                    simpa using h
                  have hrlen : ((CN.map (fun j => matD d i j)).take b).length = b := by have h0 := HC7L.out; rw [List.length_take, List.length_map]; omega
                  obtain ⟨j, hjj⟩ : ∃ j, j = CN[b] := ⟨_, rfl⟩
                  rw [← hjj] at hx7 hjn htk
                  have HTKb := Aside0.mk htk
                  have HRLIM := Aside0.mk (show (((CN.map (fun j => matD d i j)).take b).length + 1) * 2 ≤ 140737488355328 by omega)
                  have hinn := HIN.out
                  have n1 : j < 64 := by omega
                  have hcell := (HMb.out.same.blk HRR.out (by have h := HN1.out; exact h)).cell (i := i) (j := j) hinn n1
                  have hval : fill d.objs.length (matD d) i j = matD d i j := by unfold fill; rw [if_pos hjn]
                  rw [hval] at hcell
                  obtain ⟨q, hq⟩ : ∃ q, q = matD d i j := ⟨_, rfl⟩
                  rw [← hq] at hcell HTKb
                  obtain ⟨rl, hrl⟩ : ∃ rl, rl = (CN.map (fun j => matD d i j)).take b := ⟨_, rfl⟩
                  rw [← hrl] at HRb HRLIM HTKb
                  have c07 : (b : Int) < n7 := by omega
                  have c08 : (i : Int) < d.subs.length := by omega
                  have c09 : (j : Int) < 64 := by omega
                  have hg3b : Stays wr g3 _ 26 := HMb.out.g
                  have HNEb := Aside0.mk (Kd.R_ne HRb.out HMb.out.g (by decide))
                  clear hC7 hbw hrd hjn htk hrlen hval hq hrl hjj hg3b
                  go_wp2_with (first | ((with_reducible refine gate_builtin (b := .append) (xs := #[.tmp 123, .tmp 130]) rfl ?_); at_builtin; refine Kd.R_append (Kd.int .u16) (w0 := wr) B8 rfl (.tmp 123) (.tmp 130) 32 31 (.int .u16 0) 2 rfl Try.underlying32 PG.info31 rfl (by decide) (by decide) u16 rl q [.int .u16 q] (fun _ => True) (fun _ => False) rfl rfl rfl (fun _ hk => hk.elim) (fun _ _ => trivial) HRb.out (Below.refl _ _) (HLE9.out) HRLIM.out ?_; intro v9 w9 hR9 hB9 hg9 hat9; have HR9 := Aside0.mk hR9; have hM9 := HMb.out.row HMSb.out HLE8.out (fun k hk => by (obtain ⟨inner, ho⟩ := Kd.R_own HRb.out); exact own_base ho k hk) hg9 HNEb.out; have HM9 := Aside0.mk hM9.1; have HMS9 := Aside0.mk hM9.2; have HSZ9 := Aside0.mk hg9.size; clear hR9 hB9 hg9 hat9 hM9))
                  go_roundw
                  case rel => exact ⟨b + 1, by omega, by go_num, HM9, HMS9, ⟨by rw [HTKb.out]; exact HR9.out⟩, ⟨Nat.le_trans HLE9.out HSZ9.out⟩⟩
                  case measure => simp [intOf]; omega
                · have hbb : b = n7 := by omega
                  subst hbb
                  have hrow := HRb.out
                  rw [List.take_of_length_le (by have h0 := HC7L.out; rw [List.length_map]; omega)] at hrow
                  obtain ⟨Ar, cr, er⟩ := Kd.R_slice hrow
                  obtain ⟨nr, hnr⟩ : ∃ nr, nr = (CN.map (fun j => matD d i j)).length := ⟨_, rfl⟩
                  rw [← hnr] at er
                  subst er
                  have HROW := Aside0.mk hrow
                  have e5 := HMb.out.g.cell 5
                  simp only [gV, List.getElem?_toArray, List.getElem?_cons_zero, List.getElem?_cons_succ] at e5
                  obtain ⟨rl, hrl⟩ : ∃ rl, rl = CN.map (fun j => matD d i j) := ⟨_, rfl⟩
                  rw [← hrl] at HROW HTK
                  have HSZ := Aside0.mk HMb.out.same.size
                  have hpm : (Kd.slice 31 (Kd.int .u16)).M wr W7.heap.size (fun k => (Value.slice Ar nr cr).ownBlock = some k) rl [.slice Ar nr cr] := ⟨_, rfl, ⟨fun _ h => h, (Kd.R_lower HROW.out HLE8.out).2.imp_ (fun _ _ h => h)⟩⟩
                  have hokm : ∀ k, (Value.slice Ar nr cr).ownBlock = some k → True ∧ some k ≠ vm.ownBlock := fun k hk => ⟨trivial, fun e => by
                    have h1 := HMSb.out.1 k e.symm
                    obtain ⟨inner, ho⟩ := Kd.R_own HROW.out
                    have h2 := own_base ho k hk
                    omega⟩
                  have HPM := Aside0.mk hpm
                  have HOKM := Aside0.mk hokm
                  clear hrow hnr hrl HRb hpm hokm
                  go_upto_region 30 with (first | ((with_reducible refine gate_builtin (b := .append) (xs := #[.tmp 134, .tmp 136]) rfl ?_); at_builtin; refine Kd.R_append (Kd.slice 31 (Kd.int .u16)) (w0 := wr) W7.heap.size rfl (.tmp 134) (.tmp 136) 24 32 (.slice none 0 0) 24 rfl Try.underlying24 info32 rfl (by decide) (by decide) vm ms rl [.slice Ar nr cr] (fun _ => True) (fun k => (Value.slice Ar nr cr).ownBlock = some k) rfl rfl HPM.out HOKM.out (fun _ _ => trivial) HMb.out.ms (Below.refl _ _) HSZ.out HMLIM.out ?_; intro v11 w11 hR11 hB11 hg11 hat11; have HM11 := Aside0.mk (HMb.out.app hR11 hg11); have hG11 : Stays w11 g3 (gV u0 v1 u2 v4 v6 vm) 26 := (hg11.block _ (Array.getElem?_eq_some_iff.1 HMb.out.g).1 (Kd.R_ne HMb.out.ms HMb.out.g (by decide))).trans HMb.out.g; have x11 := hG11.cell 5; simp only [gV, List.getElem?_toArray, List.getElem?_cons_zero, List.getElem?_cons_succ] at x11; have f11 : w11.frozen? ⟨g3, 5, none⟩ = false := frozen_of_row _ _ _ _ _ hG11; obtain ⟨A11, c11, e11⟩ := Kd.R_slice hR11; obtain ⟨n11, hn11⟩ : ∃ n11, n11 = (ms ++ [rl]).length := ⟨_, rfl⟩; rw [← hn11] at e11; subst e11; clear hR11 hB11 hg11 hat11 hG11 hn11))
                  clear e5 x11 f11
                  rw [← HTK.out] at HM11
                  go_wp2
                  go_roundw
                  case rel => exact ⟨a + 1, _, by omega, by go_num, HM11⟩
                  case measure => simp [intOf]; omega
            · have haa : a = n5 := by omega
              subst haa
              have hA := HA.out
              rw [List.take_of_length_le (by have h0 := HW5L.out; rw [HMM.out, List.length_map]; omega)] at hA
              have hVf := hA.same.stays HV7.out (by have h1 := HG3.out; intro e; have e : gv = g3 := e; omega)
              have q0 := hA.same.toR HR0.out (fun _ h => h)
              have q1 := hA.same.toR HR1.out (fun _ h => h)
              have q2 := hA.same.toR HR2.out (fun _ h => h)
              have q3 := hA.same.toR HR4.out (fun _ h => h)
              have q4 := hA.same.toR HR6.out (fun _ h => h)
              have q5 := hA.ms
              obtain ⟨B0', k0, rfl⟩ := Kd.R_slice q0
              obtain ⟨B1', k1, rfl⟩ := Kd.R_slice q1
              obtain ⟨B2', k2, rfl⟩ := Kd.R_slice q2
              obtain ⟨B3', k3, rfl⟩ := Kd.R_slice q3
              obtain ⟨B4', k4, rfl⟩ := Kd.R_slice q4
              obtain ⟨B5', k5, rfl⟩ := Kd.R_slice q5
              obtain ⟨G0, hG0⟩ : ∃ G0 : Array Value, G0 = gV (.slice B0' d.acts.length k0) (.slice B1' (d.subs.map (·.f0)).length k1) (.slice B2' d.objs.length k2) (.slice B3' (numsOf (linesOf d.subs.length (fill d.objs.length (matD d)))).length k3) (.slice B4' (numsOf (linesOf d.objs.length (fill d.subs.length (fun j i => matD d i j)))).length k4) (.slice B5' (masksM d.subs.length d.objs.length (matD d)).length k5) := ⟨_, rfl⟩
              have hsz : G0.size = 6 := by rw [hG0]; rfl
              have h1c : G0.all (·.oneCell') = true := by rw [hG0]; simp [gV, Value.oneCell']
              have hg := hA.g
              rw [← hG0] at hg
              have HVF := Aside0.mk hVf
              have HGF := Aside0.mk hg
              have HSZ := Aside0.mk (show (Try.prog.info? 26).map (·.size) = some G0.size by rw [hsz]; exact i26)
              have HSZ2 := Aside0.mk (show G0.size = (#[.slice none 0 0, .slice none 0 0, .slice none 0 0, .slice none 0 0, .slice none 0 0, .slice none 0 0] : Array Value).size by rw [hsz]; rfl)
              have H1C := Aside0.mk h1c
              have HG0 := Aside0.mk hG0
              have HBF := Aside0.mk (hA.same.below HW7.out (fun k hk => by have h1 := HG3.out; have h2 := HGV.out; have hk : k = g3 := hk; omega))
              have Q0 := Aside0.mk q0
              have Q1 := Aside0.mk q1
              have Q2 := Aside0.mk q2
              have Q3 := Aside0.mk q3
              have Q4 := Aside0.mk q4
              have Q5 := Aside0.mk q5
              clear hA hVf q0 q1 q2 q3 q4 q5 hsz h1c hg hG0 HA
              go_wp2_with (first | ((with_reducible refine gate_dst (N := 140) rfl ?_); refine wpList_load_blk rfl 26 (.tmp 3) rfl g3 ?hx G0 26 HGF.out _ Try.underlying26 rfl HSZ.out ?_; (case hx => rfl)) | ((with_reducible refine gate_store (t := 26) (p := 2) (v := .tmp 140) rfl ?_); refine wpList_store_var rfl 26 (.tmp 2) (.tmp 140) rfl gv G0 ?hx ?hy HVF.out HSZ2.out HSZ.out H1C.out ?_; (case hx => rfl); (case hy => rfl)))
              (try simp only [Exit.inBlock, Exit.then])
              have hres := setCells_var (vs := G0) HVF.out HSZ2.out
              refine bodyPost_ret (results_single rfl (.cell gv 26 G0 (0, 0) _ rfl hres Try.underlying26 rfl HSZ.out .nil)) rfl ?_
              have p0 := Kd.R_reads' (R_setCells Q0.out HVF.out (by decide) G0.toList)
              have p1 := Kd.R_reads' (R_setCells Q1.out HVF.out (by decide) G0.toList)
              have p2 := Kd.R_reads' (R_setCells Q2.out HVF.out (by decide) G0.toList)
              have p3 := Kd.R_reads' (R_setCells Q3.out HVF.out (by decide) G0.toList)
              have p4 := Kd.R_reads' (R_setCells Q4.out HVF.out (by decide) G0.toList)
              have p5 := Kd.R_reads' (R_setCells Q5.out HVF.out types_ms G0.toList)
              refine ⟨⟨B0', k0, d.acts, B1', k1, d.subs.map (·.f0), B2', k2, d.objs, B3', k3, numsOf (linesOf d.subs.length (fill d.objs.length (matD d))), B4', k4, numsOf (linesOf d.objs.length (fill d.subs.length (fun j i => matD d i j))), B5', k5, masksM d.subs.length d.objs.length (matD d)⟩, ?_, ⟨p0.2.2, p1.2.2, p2.2.2, p3.2.2, p4.2.2, p5.2.2, p0.2.1, p1.2.1, p2.2.1, p3.2.1, p4.2.1, p5.2.1, ?_⟩, rfl, rfl, rfl, rfl, rfl, rfl, setCells_below HBF.out (Nat.le_of_lt HGV.out) _⟩
              · rw [HG0.out]; rfl
              · intro row hr x hx
                have hr : row ∈ masksM d.subs.length d.objs.length (matD d) := hr
                unfold masksM at hr
                obtain ⟨i, _, rfl⟩ := List.mem_map.1 hr
                obtain ⟨j, _, rfl⟩ := List.mem_map.1 hx
                exact matD_u16 d ha i j
end Go.Proofs.Ythaiodklfoegiaa.CCompile

namespace Go.Proofs.Ythaiodklfoegiaa.PG
open Go.Proofs.YthaiodklfoegiaaF
attribute [local go_sem high] run_feq run_fne run_flt_lt run_flt_le run_flt_gt run_flt_ge
open Go.RowKit Go.Proofs.YthaiodklfoegiaaW.PrintWords Go.Proofs.YthaiodklfoegiaaW.PrintLast Go.Proofs.YthaiodklfoegiaaW.PrintMore
attribute [local go_sem] max2_int min2_int max_two min_two max_three min_three max_four min_four   -- for this text's walks alone
set_option linter.unusedVariables false
set_option linter.unusedSimpArgs false

/-! ### gatehouselaw11_texts: function 71 -/
def gatehouselaw11_texts.f (l0 : List ByteArray) : Option (List ByteArray) := if ([] : List ByteArray).length + l0.length < 8796093022208 then (some (([] : List ByteArray) ++ l0)) else (none)
set_option maxHeartbeats 8000000 in
set_option maxRecDepth 100000 in
theorem gatehouselaw11_texts.calls (A0 : Option Addr) (c0 : Nat) (l0 : List ByteArray) (r : List ByteArray) (w : World) (hr0 : Kd.C Kd.string w A0 l0.length l0) (hc0 : l0.length ≤ c0) (h : gatehouselaw11_texts.f l0 = some r) :
    Calls Try.prog 71 #[.slice A0 l0.length c0] w fun e w' => ∃ v0_ : Value, e = .returned (v0_) ∧ Kd.R Kd.string 9 w' w.heap.size (fun _ => True) v0_ r ∧ Below w.heap.size w w' := by
  have HR0 := Aside0.mk hr0
  have HC0 := Aside0.mk hc0
  clear hr0 hc0
  have HB := Aside0.mk (Below.refl w.heap.size w)
  have H : (if ([] : List ByteArray).length + l0.length < 8796093022208 then (some (([] : List ByteArray) ++ l0)) else (none)) = some r := h
  clear h
  by_cases c2 : ([] : List ByteArray).length + l0.length < 8796093022208
  · rw [if_pos c2] at H
    have LMc2 := Aside0.mk c2
    clear c2
    obtain ⟨y295, hy295⟩ : ∃ y_ : List ByteArray, y_ = (([] : List ByteArray) ++ l0) := ⟨_, rfl⟩
    replace H : (some y295) = some r := by first | (rw [hy295]; with_reducible exact H) | (have H2_ := (Option.bind_some _ _).symm.trans H; rw [hy295]; with_reducible exact H2_) | (have H2_ := (Option.bind_some _ _).symm.trans H; with_reducible exact H2_) | with_reducible exact H | (rw [hy295]; exact H) | exact H
    have Ny295 := Aside0.mk hy295
    clear hy295
    obtain rfl := Option.some.inj H
    go_enter Try.func71, Try.ntmps71
    go_wp2_with (first | ((with_reducible refine gate_builtin (b := .append) (xs := #[.tmp 4, .tmp 5]) rfl ?_); at_builtin; refine Kd.R_append_rows Kd.string (w0 := w) w.heap.size rfl (.tmp 4) (.tmp 5) 22 9 (.string ⟨#[]⟩) 16 rfl Try.underlying22 info9 rfl (by decide) (by omega) (.slice none 0 0) ([] : List ByteArray) l0 _ _ _ (fun _ => True) (fun _ => False) rfl rfl ?aO ?aR (fun _ _ h => h) (fun _ h => h.elim) ?aF ?aB ?aS ?aL ?_; (case aR => repeat (first | exact HR0.out | (with_reducible refine Kd.C_alloc ?_ _) | (with_reducible refine Kd.C_drewN ?_ _) | (with_reducible refine Kd.C_drew ?_))); (case aB => exact (by repeat (first | (with_reducible first | exact HB.out | apply below_alloc | apply pw_below_drewN | apply below_drew1) | exact HB.out))); (case aF => exact (fun _ _ => trivial)); (case aO => exact ((Kd.R_nil _ _ _ _ (fun _ => True)))); (case aS => exact (below_size (by repeat (first | (with_reducible first | exact HB.out | apply below_alloc | apply pw_below_drewN | apply below_drew1) | exact HB.out)))); (case aL => have := LMc2.out; omega); intro v296 w3 ho hb hg hat; rw [← Ny295.out] at ho; have n0_ := Aside0.mk (hb); have n1_ := Aside0.mk (ho); clear HB; have HB := n0_; have HO297 := n1_; clear n0_ n1_; clear ho hb hg hat))
    go_ret
    exact ⟨_, by first | rfl | (simp [errW_none, errW_some] <;> rfl) | (simp [*, errW_none, errW_some] <;> rfl), by (with_reducible repeat (first | apply Kd.R_alloc | apply Kd.R_drewN | apply Kd.R_drew)); exact HO297.out, by repeat (first | (with_reducible first | exact HB.out | apply below_alloc | apply pw_below_drewN | apply below_drew1) | exact HB.out)⟩
  · rw [if_neg c2] at H
    exact absurd H (by simp)

end Go.Proofs.Ythaiodklfoegiaa.PG
