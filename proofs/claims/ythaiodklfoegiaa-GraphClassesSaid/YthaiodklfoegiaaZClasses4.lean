/- Several texts of this session in one file, in their build order: PGx38, CLClass, CRise, CLClasses. -/
import Derived.Test.YthaiodklfoegiaaZClasses1
import Derived.Test.YthaiodklfoegiaaZClasses3
namespace Go.Proofs.Ythaiodklfoegiaa.PG
open Go.Proofs.YthaiodklfoegiaaF
attribute [local go_sem high] run_feq run_fne run_flt_lt run_flt_le run_flt_gt run_flt_ge
open Go.RowKit Go.Proofs.YthaiodklfoegiaaW.PrintWords Go.Proofs.YthaiodklfoegiaaW.PrintLast Go.Proofs.YthaiodklfoegiaaW.PrintMore
attribute [local go_sem] max2_int min2_int max_two min_two max_three min_three max_four min_four   -- for this text's walks alone
set_option linter.unusedVariables false
set_option linter.unusedSimpArgs false

/-! ### gatehouselaw11_rising: function 27 -/
def gatehouselaw11_rising.l0 : Nat → List Int → Int → Int → Option (Bool)
  | 0, _, _, _ => none
  | k + 1, x0, x3, x4 => if x4 < (x0.length : Int) then (if 0 ≤ x4 then (if (rd x0 x4) < 1 then (some false) else (if (rd x0 x4) > (wrap64 (x3 + 1)) then (some false) else (gatehouselaw11_rising.l0 k x0 (mx x3 (rd x0 x4)) (wrap64 (x4 + 1))))) else (none)) else (some true)
def gatehouselaw11_rising.f (k : Nat) (l0 : List Int) : Option (Bool) := gatehouselaw11_rising.l0 k l0 0 0
theorem gatehouselaw11_rising.mono_l : ∀ k, (∀ y0 y1 y2, LeO (gatehouselaw11_rising.l0 k y0 y1 y2) (gatehouselaw11_rising.l0 (k + 1) y0 y1 y2))
  | 0 => fun _ _ _ r h => by simp [gatehouselaw11_rising.l0] at h
  | k + 1 => by
    have ih0 := gatehouselaw11_rising.mono_l k
    · intro y0 y1 y2
      unfold gatehouselaw11_rising.l0
      repeat' first
      | (with_reducible exact ih0 _ _ _)
      | (with_reducible exact LeO.refl _)
      | (with_reducible exact LeO.none _)
      | (with_reducible refine LeO.ite ?_ ?_)
      | (with_reducible refine LeO.bind ?_ (fun _ => ?_))
      | exact ih0 _ _ _
      | exact LeO.none _
      | refine LeO.ite ?_ ?_
      | refine LeO.bind ?_ (fun _ => ?_)
theorem gatehouselaw11_rising.mono : ∀ a0 k, LeO (gatehouselaw11_rising.f k a0) (gatehouselaw11_rising.f (k + 1) a0) := by
  intro a0 k
  have ih0 := gatehouselaw11_rising.mono_l k
  unfold gatehouselaw11_rising.f
  repeat' first
      | (with_reducible exact ih0 _ _ _)
      | (with_reducible exact LeO.refl _)
      | (with_reducible exact LeO.none _)
      | (with_reducible refine LeO.ite ?_ ?_)
      | (with_reducible refine LeO.bind ?_ (fun _ => ?_))
      | exact ih0 _ _ _
      | exact LeO.none _
      | refine LeO.ite ?_ ?_
      | refine LeO.bind ?_ (fun _ => ?_)
set_option maxHeartbeats 8000000 in
set_option maxRecDepth 100000 in
theorem gatehouselaw11_rising.calls (k : Nat) (A0 : Option Addr) (c0 : Nat) (l0 : List Int) (r : Bool) (w : World) (hr0 : Kd.C (Kd.int .i64) w A0 l0.length l0) (hc0 : l0.length ≤ c0) (h : gatehouselaw11_rising.f k l0 = some r) :
    Calls Try.prog 27 #[.slice A0 l0.length c0] w fun e w' => e = .returned (.bool r) ∧ Below w.heap.size w w' := by
  have HR0 := Aside0.mk hr0
  have HC0 := Aside0.mk hc0
  clear hr0 hc0
  have HB := Aside0.mk (Below.refl w.heap.size w)
  have H : (gatehouselaw11_rising.l0 k l0 0 0) = some r := h
  clear h
  have H' := Aside0.mk H
  clear H
  go_enter Try.func27, Try.ntmps27
  go_wp2
  go_loopg [3, 4] k (fun kq v3 v4 w' => ∃ (x3_1 : Int) (x4_1 : Int), v3 = .int .i64 x3_1 ∧ v4 = .int .i64 x4_1 ∧ Aside0 (gatehouselaw11_rising.l0 kq l0 x3_1 x4_1 = some r) ∧ Aside0 (kq ≤ k) ∧ Aside0 (Below w.heap.size w w'))
  case atStart => exact ⟨(0), (0), (by first | rfl | (simp; done) | (simp [*]; done)), (by first | rfl | (simp; done) | (simp [*]; done)), H', ⟨Nat.le_refl _⟩, ⟨by repeat (first | (with_reducible first | exact HB.out | apply below_alloc | apply pw_below_drewN | apply below_drew1) | exact HB.out)⟩⟩
  case round =>
    clear H'
    obtain ⟨x3_1, x4_1, rfl, rfl, HA, HK1, HB⟩ := hrel
    cases gk with
    | zero => exact absurd HA.out (by simp [gatehouselaw11_rising.l0])
    | succ k1 =>
      have H := HA.out
      clear HA
      simp only [gatehouselaw11_rising.l0] at H
      by_cases c2 : x4_1 < (l0.length : Int)
      · rw [if_pos c2] at H
        have c2b0 : decide (x4_1 < (l0.length : Int)) = true := decide_eq_true c2
        clear c2
        by_cases c3 : 0 ≤ x4_1
        · rw [if_pos c3] at H
          have c3b0 : decide (0 ≤ x4_1) = true := decide_eq_true c3
          clear c3
          by_cases c4 : (rd l0 x4_1) < 1
          · rw [if_pos c4] at H
            have c4b0 : decide ((rd l0 x4_1) < 1) = true := decide_eq_true c4
            clear c4
            obtain rfl := Option.some.inj H
            have p274 : 0 ≤ (x4_1 : Int) := of_decide_eq_true (by first | (with_reducible assumption) | assumption)
            have q274 : x4_1 < (l0.length : Int) := of_decide_eq_true (by first | (with_reducible assumption) | assumption)
            obtain ⟨ad274, e274, hx274_0⟩ := Kd.at_int HR0.out x4_1 p274 q274
            cases e274
            replace hx274_0 := (HB.out.cell (World.block_lt_of_cell? w _ hx274_0)).trans hx274_0
            replace p274 := eq_true p274
            replace q274 := eq_true q274
            go_wp2
            go_ret
            exact ⟨by first | rfl | (simp [errW_none, errW_some] <;> rfl) | (simp [*, errW_none, errW_some] <;> rfl), by repeat (first | (with_reducible first | exact HB.out | apply below_alloc | apply pw_below_drewN | apply below_drew1) | exact HB.out)⟩
          · rw [if_neg c4] at H
            have c4b0 : decide ((rd l0 x4_1) < 1) = false := decide_eq_false c4
            clear c4
            by_cases c5 : (rd l0 x4_1) > (wrap64 (x3_1 + 1))
            · rw [if_pos c5] at H
              have c5b0 : decide ((wrap64 (x3_1 + 1)) < (rd l0 x4_1)) = true := decide_eq_true c5
              clear c5
              obtain rfl := Option.some.inj H
              have p274 : 0 ≤ (x4_1 : Int) := of_decide_eq_true (by first | (with_reducible assumption) | assumption)
              have q274 : x4_1 < (l0.length : Int) := of_decide_eq_true (by first | (with_reducible assumption) | assumption)
              obtain ⟨ad274, e274, hx274_0⟩ := Kd.at_int HR0.out x4_1 p274 q274
              cases e274
              replace hx274_0 := (HB.out.cell (World.block_lt_of_cell? w _ hx274_0)).trans hx274_0
              replace p274 := eq_true p274
              replace q274 := eq_true q274
              have p275 : 0 ≤ (x4_1 : Int) := of_decide_eq_true (by first | (with_reducible assumption) | assumption)
              have q275 : x4_1 < (l0.length : Int) := of_decide_eq_true (by first | (with_reducible assumption) | assumption)
              obtain ⟨ad275, e275, hx275_0⟩ := Kd.at_int HR0.out x4_1 p275 q275
              obtain rfl : ad274 = ad275 := (by injection e275)
              replace hx275_0 := (HB.out.cell (World.block_lt_of_cell? w _ hx275_0)).trans hx275_0
              replace p275 := eq_true p275
              replace q275 := eq_true q275
              go_wp2
              go_ret
              exact ⟨by first | rfl | (simp [errW_none, errW_some] <;> rfl) | (simp [*, errW_none, errW_some] <;> rfl), by repeat (first | (with_reducible first | exact HB.out | apply below_alloc | apply pw_below_drewN | apply below_drew1) | exact HB.out)⟩
            · rw [if_neg c5] at H
              have c5b0 : decide ((wrap64 (x3_1 + 1)) < (rd l0 x4_1)) = false := decide_eq_false c5
              clear c5
              obtain ⟨ji6, hji6⟩ : ∃ j_ : Int, (mx x3_1 (rd l0 x4_1)) = j_ := ⟨_, rfl⟩
              replace H : (gatehouselaw11_rising.l0 k1 l0 ji6 (wrap64 (x4_1 + 1))) = some r := by first | (rw [hji6] at H; exact H) | (simp only [hji6] at H ⊢; exact H)
              have hji6_ : (if x3_1 < (rd l0 x4_1) then (rd l0 x4_1) else x3_1) = ji6 := hji6
              have H' := Aside0.mk H
              clear H
              have p274 : 0 ≤ (x4_1 : Int) := of_decide_eq_true (by first | (with_reducible assumption) | assumption)
              have q274 : x4_1 < (l0.length : Int) := of_decide_eq_true (by first | (with_reducible assumption) | assumption)
              obtain ⟨ad274, e274, hx274_0⟩ := Kd.at_int HR0.out x4_1 p274 q274
              cases e274
              replace hx274_0 := (HB.out.cell (World.block_lt_of_cell? w _ hx274_0)).trans hx274_0
              replace p274 := eq_true p274
              replace q274 := eq_true q274
              have p275 : 0 ≤ (x4_1 : Int) := of_decide_eq_true (by first | (with_reducible assumption) | assumption)
              have q275 : x4_1 < (l0.length : Int) := of_decide_eq_true (by first | (with_reducible assumption) | assumption)
              obtain ⟨ad275, e275, hx275_0⟩ := Kd.at_int HR0.out x4_1 p275 q275
              obtain rfl : ad274 = ad275 := (by injection e275)
              replace hx275_0 := (HB.out.cell (World.block_lt_of_cell? w _ hx275_0)).trans hx275_0
              replace p275 := eq_true p275
              replace q275 := eq_true q275
              have p276 : 0 ≤ (x4_1 : Int) := of_decide_eq_true (by first | (with_reducible assumption) | assumption)
              have q276 : x4_1 < (l0.length : Int) := of_decide_eq_true (by first | (with_reducible assumption) | assumption)
              obtain ⟨ad276, e276, hx276_0⟩ := Kd.at_int HR0.out x4_1 p276 q276
              obtain rfl : ad274 = ad276 := (by injection e276)
              replace hx276_0 := (HB.out.cell (World.block_lt_of_cell? w _ hx276_0)).trans hx276_0
              replace p276 := eq_true p276
              replace q276 := eq_true q276
              go_wp2
              go_roundg k1
              case measure => have := HK1.out; omega
              case rel => exact ⟨(ji6), (wrap64 (x4_1 + 1)), (by first | rfl | (simp; done) | (simp only [← hji6] <;> (first | rfl | simp)) | (simp [*]; done)), (by first | rfl | (simp; done) | (simp [*]; done)), H', ⟨by have := HK1.out; omega⟩, ⟨by repeat (first | (with_reducible first | exact HB.out | apply below_alloc | apply pw_below_drewN | apply below_drew1) | exact HB.out)⟩⟩
        · rw [if_neg c3] at H
          exact absurd H (by simp)
      · rw [if_neg c2] at H
        have c2b0 : decide (x4_1 < (l0.length : Int)) = false := decide_eq_false c2
        clear c2
        obtain rfl := Option.some.inj H
        go_wp2
        go_ret
        exact ⟨by first | rfl | (simp [errW_none, errW_some] <;> rfl) | (simp [*, errW_none, errW_some] <;> rfl), by repeat (first | (with_reducible first | exact HB.out | apply below_alloc | apply pw_below_drewN | apply below_drew1) | exact HB.out)⟩

/-- THE ONE PURE STATEMENT of gatehouselaw11_rising: yours. -/
def gatehouselaw11_rising.Pure : Prop := ∀ (l0 : List Int), l0.length ≤ maxLen → l0.length * 8 ≤ 140737488351232 → (∀ x ∈ l0, (Lit.int .i64 x).wf = true) → ∃ k, gatehouselaw11_rising.f k l0 = some true
theorem gatehouselaw11_rising.walk (P : gatehouselaw11_rising.Pure) (a0 : Option Addr) (len0 cap0 : Nat) (z0 : List Int) (w : World) (w0 : (a0 = none ∧ len0 = 0 ∧ cap0 = 0 ∧ z0 = []) ∨ ∃ x, a0 = some x ∧ len0 ≤ cap0 ∧ cap0 ≤ maxLen ∧ z0.length = cap0 ∧ (∀ i, i < z0.length → w.cell? (x.add i) = some (.int .i64 (z0.getD i 0))) ∧ ∀ n ∈ z0, (Lit.int .i64 n).wf = true) (y0 : len0 * 8 ≤ 140737488351232) :
    Calls Try.prog 27 #[.slice a0 len0 cap0] w fun e w' => e = .returned (.bool true) ∧ Below w.heap.size w w' := by
  obtain ⟨l0, rfl, hr0, hm0, hw0, hc0⟩ := ReadsInt.ofRowC w0
  obtain ⟨k, h⟩ := P l0 hm0 y0 hw0
  refine (gatehouselaw11_rising.calls k _ _ l0 true w (Kd.C_of_reads (d := (0 : Int)) (h1 := fun _ => rfl) hr0) hc0 h).mono ?_
  rintro e w' ⟨rfl, hd⟩
  exact ⟨rfl, hd⟩

end Go.Proofs.Ythaiodklfoegiaa.PG

/- gatehouselaw11.rows and columns, walked. -/
namespace Go.Proofs.Ythaiodklfoegiaa.CLClass
open Go.RowKit Go.Proofs.YthaiodklfoegiaaW.PrintWords Go.Proofs.YthaiodklfoegiaaW.PrintLast Go.Proofs.YthaiodklfoegiaaW.PrintMore Go.Proofs.Ythaiodklfoegiaa.BMap Go.Proofs.Ythaiodklfoegiaa.BRow Go.Proofs.Ythaiodklfoegiaa.CPure Go.Proofs.Ythaiodklfoegiaa.CSame Go.Proofs.Ythaiodklfoegiaa.CCompile Go.Proofs.Ythaiodklfoegiaa.CSays Go.Proofs.Ythaiodklfoegiaa.CAlive Go.Proofs.Ythaiodklfoegiaa.CLSays Go.Proofs.Ythaiodklfoegiaa.CMask Go.Proofs.Ythaiodklfoegiaa.GValid Go.Proofs.Ythaiodklfoegiaa.MLines Go.Proofs.Ythaiodklfoegiaa.MSide Go.Proofs.Ythaiodklfoegiaa.MPol Go.Maps
open Go.Proofs.Ythaiodklfoegiaa Go.Proofs.Ythaiodklfoegiaa.PG

theorem mask_go (p : Pol) (s o : ByteArray) (w : World) (hp : p.In w) (hd : p.d.Ok) (hs : okS s) (ho : okS o) (ha : p.d.acts.length ≤ 16) (m : Int) (hm : ((maskD p.d s o : Nat) : Int) = m) :
    Calls Try.prog 65 #[.agg p.cells, .string s, .string o] w fun e w' => e = .returned (.int .u16 m) ∧ Below w.heap.size w w' := by
  subst hm; exact Mask_calls p s o w hp hd hs ho ha

/-- What stays: the policy. -/
structure PE (p : Pol) (w W : World) : Prop where
  box : Stays W w.heap.size p.cells 39
  below : Below w.heap.size w W
theorem PE.move {p : Pol} {w W W1 : World} (h : PE p w W) (hb : Below W.heap.size W W1) : PE p w W1 := ⟨h.box.below hb, below_then h.below h.below.size hb⟩

/-- A fact that the walk leaves alone. -/
structure Holds (P : Prop) : Prop where
  out : P

set_option maxHeartbeats 4000000 in
set_option maxRecDepth 100000 in
theorem rows_calls (p : Pol) (a b : ByteArray) (w : World) (hp : p.In w) (hd : p.d.Ok) (ka : okS a) (kb : okS b) (ha : p.d.acts.length ≤ 16) (q : Bool) (hq : q = true ↔ ∀ o ∈ p.d.objs, maskD p.d a o = maskD p.d b o) :
    Calls Try.prog 28 #[.agg p.cells, .string a, .string b] w fun e w' => e = .returned (.bool q) ∧ Below w.heap.size w w' := by
  obtain ⟨d, A0, c0, A1, c1, A2, c2, A3, c3, A4, c4, A5, c5, A6, c6, A7, c7, A8, c8, A9, c9, A10, c10⟩ := p
  have hmax : d.objs.length ≤ 9223372036854775807 := hp.h3.2.1
  have HP := Aside0.mk hp
  have HD := Aside0.mk hd
  have KA := Aside0.mk ka
  have KB := Aside0.mk kb
  have HMA := Aside0.mk ha
  have HQ : Aside0 (Holds (q = true ↔ ∀ o ∈ d.objs, maskD d a o = maskD d b o)) := ⟨⟨hq⟩⟩
  have HE := Aside0.mk (PE.mk (p := (Pol.mk d A0 c0 A1 c1 A2 c2 A3 c3 A4 c4 A5 c5 A6 c6 A7 c7 A8 c8 A9 c9 A10 c10)) (heap_alloc_new w (.cells #[.slice A0 d.acts.length c0, .slice A1 d.subs.length c1, .slice A2 d.roles.length c2, .slice A3 d.objs.length c3, .slice A4 d.grps.length c4, .slice A5 d.mem.length c5, .slice A6 d.inh.length c6, .slice A7 d.par.length c7, .slice A8 d.wit.length c8, .slice A9 d.rules.length c9, .slice A10 d.exc.length c10] 39)) (below_alloc (Below.refl _ w) (.cells #[.slice A0 d.acts.length c0, .slice A1 d.subs.length c1, .slice A2 d.roles.length c2, .slice A3 d.objs.length c3, .slice A4 d.grps.length c4, .slice A5 d.mem.length c5, .slice A6 d.inh.length c6, .slice A7 d.par.length c7, .slice A8 d.wit.length c8, .slice A9 d.rules.length c9, .slice A10 d.exc.length c10] 39)))
  clear hp hd ka kb ha hq
  unfold Pol.cells
  go_enter Try.func28, Try.ntmps28
  go_wp2
  obtain ⟨W0, hW0⟩ : ∃ W0, W0 = w.alloc (.cells #[.slice A0 d.acts.length c0, .slice A1 d.subs.length c1, .slice A2 d.roles.length c2, .slice A3 d.objs.length c3, .slice A4 d.grps.length c4, .slice A5 d.mem.length c5, .slice A6 d.inh.length c6, .slice A7 d.par.length c7, .slice A8 d.wit.length c8, .slice A9 d.rules.length c9, .slice A10 d.exc.length c10] 39) := ⟨_, rfl⟩
  rw [← hW0] at HE ⊢
  clear hW0
  go_loopw [7] (fun u7 wr => ∃ j : Nat, j ≤ d.objs.length ∧ u7 = .int .i64 j ∧ Aside0 (PE (Pol.mk d A0 c0 A1 c1 A2 c2 A3 c3 A4 c4 A5 c5 A6 c6 A7 c7 A8 c8 A9 c9 A10 c10) w wr) ∧ Aside0 (∀ o ∈ d.objs.take j, maskD d a o = maskD d b o)) (fun u7 _ => d.objs.length - (intOf u7).toNat)
  case atStart => exact ⟨0, Nat.zero_le _, rfl, HE, ⟨fun _ h => by simp at h⟩⟩
  case round =>
    obtain ⟨j, hj, rfl, HEj, HA⟩ := hrel
    have e := HEj.out.box.cell 3
    simp only [Pol.cells, List.getElem?_toArray, List.getElem?_cons_zero, List.getElem?_cons_succ] at e
    by_cases hlt : j < d.objs.length
    · have hpin := HP.out.below HEj.out.below
      obtain ⟨ad, q3, hx⟩ := Kd.at_string hpin.h3 (j : Int) (by omega) (by simp only []; omega)
      have q3 : A3 = some ad := q3
      subst q3
      have hget : rdOf ByteArray.empty d.objs (j : Int) = d.objs[j] := by simp [rdOf, hlt]
      simp only [hget, Int.toNat_natCast] at hx
      have KN := Aside0.mk (HD.out.objs d.objs[j] (List.getElem_mem hlt))
      have hmem : d.objs[j] ∈ d.objs := List.getElem_mem hlt
      have htk : ∀ o ∈ d.objs.take (j + 1), o ∈ d.objs.take j ∨ o = d.objs[j] := fun o ho => by
        rw [List.take_succ_eq_append_getElem hlt] at ho
        rcases List.mem_append.1 ho with h | h
        · exact Or.inl h
        · simp only [List.mem_cons, List.not_mem_nil, or_false] at h
          exact Or.inr h
      obtain ⟨oN, hoN⟩ : ∃ oN, oN = d.objs[j] := ⟨_, rfl⟩
      rw [← hoN] at hx KN hmem htk
      obtain ⟨m1, hm1⟩ : ∃ m1, ((maskD d a oN : Nat) : Int) = m1 := ⟨_, rfl⟩
      obtain ⟨m2, hm2⟩ : ∃ m2, ((maskD d b oN : Nat) : Int) = m2 := ⟨_, rfl⟩
      have HM1 := Aside0.mk hm1
      have HM2 := Aside0.mk hm2
      have c01 : (j : Int) < d.objs.length := by omega
      by_cases hmm : m1 = m2
      · subst hmm
        have heq : maskD d a oN = maskD d b oN := by omega
        have HAn : Aside0 (∀ o ∈ d.objs.take (j + 1), maskD d a o = maskD d b o) := ⟨fun o ho => (htk o ho).elim (HA.out o) (fun h => h ▸ heq)⟩
        clear hpin hget hoN hmem htk hm1 hm2 heq HA
        · go_upto_region 4 with fail
          have HE9 := Aside0.mk (HEj.out.move (below_drew (Below.refl wr.heap.size wr)))
          refine start_ (n := 17) (S := fun w' => PE (Pol.mk d A0 c0 A1 c1 A2 c2 (some ad) c3 A4 c4 A5 c5 A6 c6 A7 c7 A8 c8 A9 c9 A10 c10) w w' ∧ w'.cell? ⟨w.heap.size, 3, none⟩ = some (.slice (some ad) d.objs.length c3) ∧ w'.cell? (ad.add j) = some (.string oN)) (ds := [16]) #[false, false, false, false, false, false, false, false, false, false, false, false, false, false, false, false, false] (by kernel_rfl) rfl rfl ⟨HE9.out, pw_cell_below (below_drew (Below.refl wr.heap.size wr)) e, pw_cell_below (below_drew (Below.refl wr.heap.size wr)) hx⟩ (fun hHeld => ?_)
          obtain ⟨W6, hW6⟩ : ∃ W6, W6 = wr.drew := ⟨_, rfl⟩
          rw [← hW6] at hHeld ⊢
          clear hW6 HE9
          refine take_ (i := 0) (N := some 15) (v := .agg #[.slice A0 d.acts.length c0, .slice A1 d.subs.length c1, .slice A2 d.roles.length c2, .slice (some ad) d.objs.length c3, .slice A4 d.grps.length c4, .slice A5 d.mem.length c5, .slice A6 d.inh.length c6, .slice A7 d.par.length c7, .slice A8 d.wit.length c8, .slice A9 d.rules.length c9, .slice A10 d.exc.length c10]) (a' := ?_) #[true, false, false, false, false, false, false, false, false, false, false, false, false, false, false, false, false] rfl rfl (by kernel_rfl) (fun _ _ _ h => h) (yieldsIf_load_mid (by rfl) 39 (.tmp 3) rfl w.heap.size 0 rfl (#[.slice A0 d.acts.length c0, .slice A1 d.subs.length c1, .slice A2 d.roles.length c2, .slice (some ad) d.objs.length c3, .slice A4 d.grps.length c4, .slice A5 d.mem.length c5, .slice A6 d.inh.length c6, .slice A7 d.par.length c7, .slice A8 d.wit.length c8, .slice A9 d.rules.length c9, .slice A10 d.exc.length c10]).toList _ (fun w' hs => Stays.range (hs.1.box) _ rfl) Try.underlying39 rfl (by first | exact i39 | (simp; exact i39))) hHeld ?_ ?_
          rotate_left
          · simp only [Act.put, List.setIfInBounds_toArray, List.set_cons_zero, List.set_cons_succ]
            rfl
          refine pure_ (i := 1) (N := some 16) (v := ?_) (a' := ?_) #[true, true, false, false, false, false, false, false, false, false, false, false, false, false, false, false, false] rfl rfl (by kernel_rfl) (fun _ _ _ h => h) (Or.inl ⟨by rfl, ?_⟩) ?_ ?_
          rotate_left
          · intro w'
            go_simp
            with_reducible rfl
          rotate_left
          · simp only [Act.put, List.setIfInBounds_toArray, List.set_cons_zero, List.set_cons_succ]
            rfl
          refine pure_ (i := 2) (N := some 17) (v := ?_) (a' := ?_) #[true, true, true, false, false, false, false, false, false, false, false, false, false, false, false, false, false] rfl rfl (by kernel_rfl) (fun _ _ _ h => h) (Or.inl ⟨by rfl, ?_⟩) ?_ ?_
          rotate_left
          · intro w'
            go_simp
            with_reducible rfl
          rotate_left
          · simp only [Act.put, List.setIfInBounds_toArray, List.set_cons_zero, List.set_cons_succ]
            rfl
          refine take_ (i := 3) (N := some 18) (v := ?_) (a' := ?_) #[true, true, true, true, false, false, false, false, false, false, false, false, false, false, false, false, false] rfl rfl (by kernel_rfl) (fun _ _ _ h => h) (Or.inl ⟨by rfl, ?_⟩) hHeld ?_ ?_
          rotate_left
          · rintro w' ⟨s0, s1, s2⟩
            go_simp
            with_reducible rfl
          rotate_left
          · simp only [Act.put, List.setIfInBounds_toArray, List.set_cons_zero, List.set_cons_succ]
            rfl
          refine pure_ (i := 4) (N := some 19) (v := ?_) (a' := ?_) #[true, true, true, true, true, false, false, false, false, false, false, false, false, false, false, false, false] rfl rfl (by kernel_rfl) (fun _ _ _ h => h) (Or.inl ⟨by rfl, ?_⟩) ?_ ?_
          rotate_left
          · intro w'
            go_simp
            with_reducible rfl
          rotate_left
          · simp only [Act.put, List.setIfInBounds_toArray, List.set_cons_zero, List.set_cons_succ]
            rfl
          refine pure_ (i := 5) (N := some 20) (v := ?_) (a' := ?_) #[true, true, true, true, true, true, false, false, false, false, false, false, false, false, false, false, false] rfl rfl (by kernel_rfl) (fun _ _ _ h => h) (Or.inl ⟨by rfl, ?_⟩) ?_ ?_
          rotate_left
          · intro w'
            go_simp
            with_reducible rfl
          rotate_left
          · simp only [Act.put, List.setIfInBounds_toArray, List.set_cons_zero, List.set_cons_succ]
            rfl
          refine take_ (i := 6) (N := some 21) (v := ?_) (a' := ?_) #[true, true, true, true, true, true, true, false, false, false, false, false, false, false, false, false, false] rfl rfl (by kernel_rfl) (fun _ _ _ h => h) (Or.inl ⟨by rfl, ?_⟩) hHeld ?_ ?_
          rotate_left
          · rintro w' ⟨s0, s1, s2⟩
            go_simp
            with_reducible rfl
          rotate_left
          · simp only [Act.put, List.setIfInBounds_toArray, List.set_cons_zero, List.set_cons_succ]
            rfl
          refine take_ (i := 8) (N := some 23) (v := .agg #[.slice A0 d.acts.length c0, .slice A1 d.subs.length c1, .slice A2 d.roles.length c2, .slice (some ad) d.objs.length c3, .slice A4 d.grps.length c4, .slice A5 d.mem.length c5, .slice A6 d.inh.length c6, .slice A7 d.par.length c7, .slice A8 d.wit.length c8, .slice A9 d.rules.length c9, .slice A10 d.exc.length c10]) (a' := ?_) #[true, true, true, true, true, true, true, false, true, false, false, false, false, false, false, false, false] rfl rfl (by kernel_rfl) (fun _ _ _ h => h) (yieldsIf_load_mid (by rfl) 39 (.tmp 3) rfl w.heap.size 0 rfl (#[.slice A0 d.acts.length c0, .slice A1 d.subs.length c1, .slice A2 d.roles.length c2, .slice (some ad) d.objs.length c3, .slice A4 d.grps.length c4, .slice A5 d.mem.length c5, .slice A6 d.inh.length c6, .slice A7 d.par.length c7, .slice A8 d.wit.length c8, .slice A9 d.rules.length c9, .slice A10 d.exc.length c10]).toList _ (fun w' hs => Stays.range (hs.1.box) _ rfl) Try.underlying39 rfl (by first | exact i39 | (simp; exact i39))) hHeld ?_ ?_
          rotate_left
          · simp only [Act.put, List.setIfInBounds_toArray, List.set_cons_zero, List.set_cons_succ]
            rfl
          refine pure_ (i := 9) (N := some 24) (v := ?_) (a' := ?_) #[true, true, true, true, true, true, true, false, true, true, false, false, false, false, false, false, false] rfl rfl (by kernel_rfl) (fun _ _ _ h => h) (Or.inl ⟨by rfl, ?_⟩) ?_ ?_
          rotate_left
          · intro w'
            go_simp
            with_reducible rfl
          rotate_left
          · simp only [Act.put, List.setIfInBounds_toArray, List.set_cons_zero, List.set_cons_succ]
            rfl
          refine pure_ (i := 10) (N := some 25) (v := ?_) (a' := ?_) #[true, true, true, true, true, true, true, false, true, true, true, false, false, false, false, false, false] rfl rfl (by kernel_rfl) (fun _ _ _ h => h) (Or.inl ⟨by rfl, ?_⟩) ?_ ?_
          rotate_left
          · intro w'
            go_simp
            with_reducible rfl
          rotate_left
          · simp only [Act.put, List.setIfInBounds_toArray, List.set_cons_zero, List.set_cons_succ]
            rfl
          refine take_ (i := 11) (N := some 26) (v := ?_) (a' := ?_) #[true, true, true, true, true, true, true, false, true, true, true, true, false, false, false, false, false] rfl rfl (by kernel_rfl) (fun _ _ _ h => h) (Or.inl ⟨by rfl, ?_⟩) hHeld ?_ ?_
          rotate_left
          · rintro w' ⟨s0, s1, s2⟩
            go_simp
            with_reducible rfl
          rotate_left
          · simp only [Act.put, List.setIfInBounds_toArray, List.set_cons_zero, List.set_cons_succ]
            rfl
          refine pure_ (i := 12) (N := some 27) (v := ?_) (a' := ?_) #[true, true, true, true, true, true, true, false, true, true, true, true, true, false, false, false, false] rfl rfl (by kernel_rfl) (fun _ _ _ h => h) (Or.inl ⟨by rfl, ?_⟩) ?_ ?_
          rotate_left
          · intro w'
            go_simp
            with_reducible rfl
          rotate_left
          · simp only [Act.put, List.setIfInBounds_toArray, List.set_cons_zero, List.set_cons_succ]
            rfl
          refine pure_ (i := 13) (N := some 28) (v := ?_) (a' := ?_) #[true, true, true, true, true, true, true, false, true, true, true, true, true, true, false, false, false] rfl rfl (by kernel_rfl) (fun _ _ _ h => h) (Or.inl ⟨by rfl, ?_⟩) ?_ ?_
          rotate_left
          · intro w'
            go_simp
            with_reducible rfl
          rotate_left
          · simp only [Act.put, List.setIfInBounds_toArray, List.set_cons_zero, List.set_cons_succ]
            rfl
          refine take_ (i := 14) (N := some 29) (v := ?_) (a' := ?_) #[true, true, true, true, true, true, true, false, true, true, true, true, true, true, true, false, false] rfl rfl (by kernel_rfl) (fun _ _ _ h => h) (Or.inl ⟨by rfl, ?_⟩) hHeld ?_ ?_
          rotate_left
          · rintro w' ⟨s0, s1, s2⟩
            go_simp
            with_reducible rfl
          rotate_left
          · simp only [Act.put, List.setIfInBounds_toArray, List.set_cons_zero, List.set_cons_succ]
            rfl
          refine one_ (i := 7) (N := some 22) #[true, true, true, true, true, true, true, true, true, true, true, true, true, true, true, false, false] rfl rfl (by kernel_rfl) (by decide) (fun K hK => ?_)
          refine goes_ Try.func65 (by kernel_rfl) rfl #[.agg #[.slice A0 d.acts.length c0, .slice A1 d.subs.length c1, .slice A2 d.roles.length c2, .slice (some ad) d.objs.length c3, .slice A4 d.grps.length c4, .slice A5 d.mem.length c5, .slice A6 d.inh.length c6, .slice A7 d.par.length c7, .slice A8 d.wit.length c8, .slice A9 d.rules.length c9, .slice A10 d.exc.length c10], .string a, .string oN] (by rfl) rfl rfl (by (try simp only [List.map_toArray, List.map_cons, List.map_nil]); first | done | rfl) ?_
          refine (mask_go (Pol.mk d A0 c0 A1 c1 A2 c2 (some ad) c3 A4 c4 A5 c5 A6 c6 A7 c7 A8 c8 A9 c9 A10 c10) a oN _ (HP.out.below hHeld.1.below) HD.out KA.out KN.out HMA.out m1 HM1.out).mono ?_
          rintro e w9 ⟨rfl, hb⟩
          refine ⟨_, rfl, ?_⟩
          have hH := And.intro (hHeld.1.move hb) (And.intro (pw_cell_below hb hHeld.2.1) (pw_cell_below hb hHeld.2.2))
          clear hb hHeld
          refine hK.out _ _ hH (fun hHeld => ?_)
          clear hK K hH
          refine norm_ (a' := ?_) ?_ ?_
          rotate_left
          · show Act.put _ (some 22) _ = _
            simp only [Act.put, List.setIfInBounds_toArray, List.set_cons_zero, List.set_cons_succ]
            rfl
          refine one_ (i := 15) (N := some 30) #[true, true, true, true, true, true, true, true, true, true, true, true, true, true, true, true, false] rfl rfl (by kernel_rfl) (by decide) (fun K hK => ?_)
          refine goes_ Try.func65 (by kernel_rfl) rfl #[.agg #[.slice A0 d.acts.length c0, .slice A1 d.subs.length c1, .slice A2 d.roles.length c2, .slice (some ad) d.objs.length c3, .slice A4 d.grps.length c4, .slice A5 d.mem.length c5, .slice A6 d.inh.length c6, .slice A7 d.par.length c7, .slice A8 d.wit.length c8, .slice A9 d.rules.length c9, .slice A10 d.exc.length c10], .string b, .string oN] (by rfl) rfl rfl (by (try simp only [List.map_toArray, List.map_cons, List.map_nil]); first | done | rfl) ?_
          refine (mask_go (Pol.mk d A0 c0 A1 c1 A2 c2 (some ad) c3 A4 c4 A5 c5 A6 c6 A7 c7 A8 c8 A9 c9 A10 c10) b oN _ (HP.out.below hHeld.1.below) HD.out KB.out KN.out HMA.out m1 HM2.out).mono ?_
          rintro e w10 ⟨rfl, hb⟩
          refine ⟨_, rfl, ?_⟩
          have hH := And.intro (hHeld.1.move hb) (And.intro (pw_cell_below hb hHeld.2.1) (pw_cell_below hb hHeld.2.2))
          clear hb hHeld
          refine hK.out _ _ hH (fun hHeld => ?_)
          clear hK K hH
          refine norm_ (a' := ?_) ?_ ?_
          rotate_left
          · show Act.put _ (some 30) _ = _
            simp only [Act.put, List.setIfInBounds_toArray, List.set_cons_zero, List.set_cons_succ]
            rfl
          refine pure_ (i := 16) (N := some 31) (v := ?_) (a' := ?_) #[true, true, true, true, true, true, true, true, true, true, true, true, true, true, true, true, true] rfl rfl (by kernel_rfl) (fun _ _ _ h => h) (Or.inl ⟨by rfl, ?_⟩) ?_ ?_
          rotate_left
          · intro w'
            go_simp
            with_reducible rfl
          rotate_left
          · simp only [Act.put, List.setIfInBounds_toArray, List.set_cons_zero, List.set_cons_succ]
            rfl
          refine done_ (by kernel_rfl) ?_
          have HE11 := Aside0.mk hHeld.1
          clear hHeld e hx
          go_wp2
          go_roundw
          case rel => exact ⟨j + 1, by omega, by go_num, HE11, HAn⟩
          case measure => simp [intOf]; omega
      · have hne : ¬ maskD d a oN = maskD d b oN := by omega
        have HQF : Aside0 (q = false) := ⟨by cases q with
          | false => rfl
          | true => exact absurd (HQ.out.out.1 rfl) (fun h => hne (by have h2 := h oN hmem; exact h2))⟩
        have HNB : Aside0 (Holds ((m1 != m2) = true)) := ⟨⟨by simp only [bne_iff_ne, ne_eq]; exact hmm⟩⟩
        clear hpin hget hoN hmem htk hm1 hm2 hne HA
        · go_upto_region 4 with fail
          have HE9 := Aside0.mk (HEj.out.move (below_drew (Below.refl wr.heap.size wr)))
          refine start_ (n := 17) (S := fun w' => PE (Pol.mk d A0 c0 A1 c1 A2 c2 (some ad) c3 A4 c4 A5 c5 A6 c6 A7 c7 A8 c8 A9 c9 A10 c10) w w' ∧ w'.cell? ⟨w.heap.size, 3, none⟩ = some (.slice (some ad) d.objs.length c3) ∧ w'.cell? (ad.add j) = some (.string oN)) (ds := [16]) #[false, false, false, false, false, false, false, false, false, false, false, false, false, false, false, false, false] (by kernel_rfl) rfl rfl ⟨HE9.out, pw_cell_below (below_drew (Below.refl wr.heap.size wr)) e, pw_cell_below (below_drew (Below.refl wr.heap.size wr)) hx⟩ (fun hHeld => ?_)
          obtain ⟨W6, hW6⟩ : ∃ W6, W6 = wr.drew := ⟨_, rfl⟩
          rw [← hW6] at hHeld ⊢
          clear hW6 HE9
          refine take_ (i := 0) (N := some 15) (v := .agg #[.slice A0 d.acts.length c0, .slice A1 d.subs.length c1, .slice A2 d.roles.length c2, .slice (some ad) d.objs.length c3, .slice A4 d.grps.length c4, .slice A5 d.mem.length c5, .slice A6 d.inh.length c6, .slice A7 d.par.length c7, .slice A8 d.wit.length c8, .slice A9 d.rules.length c9, .slice A10 d.exc.length c10]) (a' := ?_) #[true, false, false, false, false, false, false, false, false, false, false, false, false, false, false, false, false] rfl rfl (by kernel_rfl) (fun _ _ _ h => h) (yieldsIf_load_mid (by rfl) 39 (.tmp 3) rfl w.heap.size 0 rfl (#[.slice A0 d.acts.length c0, .slice A1 d.subs.length c1, .slice A2 d.roles.length c2, .slice (some ad) d.objs.length c3, .slice A4 d.grps.length c4, .slice A5 d.mem.length c5, .slice A6 d.inh.length c6, .slice A7 d.par.length c7, .slice A8 d.wit.length c8, .slice A9 d.rules.length c9, .slice A10 d.exc.length c10]).toList _ (fun w' hs => Stays.range (hs.1.box) _ rfl) Try.underlying39 rfl (by first | exact i39 | (simp; exact i39))) hHeld ?_ ?_
          rotate_left
          · simp only [Act.put, List.setIfInBounds_toArray, List.set_cons_zero, List.set_cons_succ]
            rfl
          refine pure_ (i := 1) (N := some 16) (v := ?_) (a' := ?_) #[true, true, false, false, false, false, false, false, false, false, false, false, false, false, false, false, false] rfl rfl (by kernel_rfl) (fun _ _ _ h => h) (Or.inl ⟨by rfl, ?_⟩) ?_ ?_
          rotate_left
          · intro w'
            go_simp
            with_reducible rfl
          rotate_left
          · simp only [Act.put, List.setIfInBounds_toArray, List.set_cons_zero, List.set_cons_succ]
            rfl
          refine pure_ (i := 2) (N := some 17) (v := ?_) (a' := ?_) #[true, true, true, false, false, false, false, false, false, false, false, false, false, false, false, false, false] rfl rfl (by kernel_rfl) (fun _ _ _ h => h) (Or.inl ⟨by rfl, ?_⟩) ?_ ?_
          rotate_left
          · intro w'
            go_simp
            with_reducible rfl
          rotate_left
          · simp only [Act.put, List.setIfInBounds_toArray, List.set_cons_zero, List.set_cons_succ]
            rfl
          refine take_ (i := 3) (N := some 18) (v := ?_) (a' := ?_) #[true, true, true, true, false, false, false, false, false, false, false, false, false, false, false, false, false] rfl rfl (by kernel_rfl) (fun _ _ _ h => h) (Or.inl ⟨by rfl, ?_⟩) hHeld ?_ ?_
          rotate_left
          · rintro w' ⟨s0, s1, s2⟩
            go_simp
            with_reducible rfl
          rotate_left
          · simp only [Act.put, List.setIfInBounds_toArray, List.set_cons_zero, List.set_cons_succ]
            rfl
          refine pure_ (i := 4) (N := some 19) (v := ?_) (a' := ?_) #[true, true, true, true, true, false, false, false, false, false, false, false, false, false, false, false, false] rfl rfl (by kernel_rfl) (fun _ _ _ h => h) (Or.inl ⟨by rfl, ?_⟩) ?_ ?_
          rotate_left
          · intro w'
            go_simp
            with_reducible rfl
          rotate_left
          · simp only [Act.put, List.setIfInBounds_toArray, List.set_cons_zero, List.set_cons_succ]
            rfl
          refine pure_ (i := 5) (N := some 20) (v := ?_) (a' := ?_) #[true, true, true, true, true, true, false, false, false, false, false, false, false, false, false, false, false] rfl rfl (by kernel_rfl) (fun _ _ _ h => h) (Or.inl ⟨by rfl, ?_⟩) ?_ ?_
          rotate_left
          · intro w'
            go_simp
            with_reducible rfl
          rotate_left
          · simp only [Act.put, List.setIfInBounds_toArray, List.set_cons_zero, List.set_cons_succ]
            rfl
          refine take_ (i := 6) (N := some 21) (v := ?_) (a' := ?_) #[true, true, true, true, true, true, true, false, false, false, false, false, false, false, false, false, false] rfl rfl (by kernel_rfl) (fun _ _ _ h => h) (Or.inl ⟨by rfl, ?_⟩) hHeld ?_ ?_
          rotate_left
          · rintro w' ⟨s0, s1, s2⟩
            go_simp
            with_reducible rfl
          rotate_left
          · simp only [Act.put, List.setIfInBounds_toArray, List.set_cons_zero, List.set_cons_succ]
            rfl
          refine take_ (i := 8) (N := some 23) (v := .agg #[.slice A0 d.acts.length c0, .slice A1 d.subs.length c1, .slice A2 d.roles.length c2, .slice (some ad) d.objs.length c3, .slice A4 d.grps.length c4, .slice A5 d.mem.length c5, .slice A6 d.inh.length c6, .slice A7 d.par.length c7, .slice A8 d.wit.length c8, .slice A9 d.rules.length c9, .slice A10 d.exc.length c10]) (a' := ?_) #[true, true, true, true, true, true, true, false, true, false, false, false, false, false, false, false, false] rfl rfl (by kernel_rfl) (fun _ _ _ h => h) (yieldsIf_load_mid (by rfl) 39 (.tmp 3) rfl w.heap.size 0 rfl (#[.slice A0 d.acts.length c0, .slice A1 d.subs.length c1, .slice A2 d.roles.length c2, .slice (some ad) d.objs.length c3, .slice A4 d.grps.length c4, .slice A5 d.mem.length c5, .slice A6 d.inh.length c6, .slice A7 d.par.length c7, .slice A8 d.wit.length c8, .slice A9 d.rules.length c9, .slice A10 d.exc.length c10]).toList _ (fun w' hs => Stays.range (hs.1.box) _ rfl) Try.underlying39 rfl (by first | exact i39 | (simp; exact i39))) hHeld ?_ ?_
          rotate_left
          · simp only [Act.put, List.setIfInBounds_toArray, List.set_cons_zero, List.set_cons_succ]
            rfl
          refine pure_ (i := 9) (N := some 24) (v := ?_) (a' := ?_) #[true, true, true, true, true, true, true, false, true, true, false, false, false, false, false, false, false] rfl rfl (by kernel_rfl) (fun _ _ _ h => h) (Or.inl ⟨by rfl, ?_⟩) ?_ ?_
          rotate_left
          · intro w'
            go_simp
            with_reducible rfl
          rotate_left
          · simp only [Act.put, List.setIfInBounds_toArray, List.set_cons_zero, List.set_cons_succ]
            rfl
          refine pure_ (i := 10) (N := some 25) (v := ?_) (a' := ?_) #[true, true, true, true, true, true, true, false, true, true, true, false, false, false, false, false, false] rfl rfl (by kernel_rfl) (fun _ _ _ h => h) (Or.inl ⟨by rfl, ?_⟩) ?_ ?_
          rotate_left
          · intro w'
            go_simp
            with_reducible rfl
          rotate_left
          · simp only [Act.put, List.setIfInBounds_toArray, List.set_cons_zero, List.set_cons_succ]
            rfl
          refine take_ (i := 11) (N := some 26) (v := ?_) (a' := ?_) #[true, true, true, true, true, true, true, false, true, true, true, true, false, false, false, false, false] rfl rfl (by kernel_rfl) (fun _ _ _ h => h) (Or.inl ⟨by rfl, ?_⟩) hHeld ?_ ?_
          rotate_left
          · rintro w' ⟨s0, s1, s2⟩
            go_simp
            with_reducible rfl
          rotate_left
          · simp only [Act.put, List.setIfInBounds_toArray, List.set_cons_zero, List.set_cons_succ]
            rfl
          refine pure_ (i := 12) (N := some 27) (v := ?_) (a' := ?_) #[true, true, true, true, true, true, true, false, true, true, true, true, true, false, false, false, false] rfl rfl (by kernel_rfl) (fun _ _ _ h => h) (Or.inl ⟨by rfl, ?_⟩) ?_ ?_
          rotate_left
          · intro w'
            go_simp
            with_reducible rfl
          rotate_left
          · simp only [Act.put, List.setIfInBounds_toArray, List.set_cons_zero, List.set_cons_succ]
            rfl
          refine pure_ (i := 13) (N := some 28) (v := ?_) (a' := ?_) #[true, true, true, true, true, true, true, false, true, true, true, true, true, true, false, false, false] rfl rfl (by kernel_rfl) (fun _ _ _ h => h) (Or.inl ⟨by rfl, ?_⟩) ?_ ?_
          rotate_left
          · intro w'
            go_simp
            with_reducible rfl
          rotate_left
          · simp only [Act.put, List.setIfInBounds_toArray, List.set_cons_zero, List.set_cons_succ]
            rfl
          refine take_ (i := 14) (N := some 29) (v := ?_) (a' := ?_) #[true, true, true, true, true, true, true, false, true, true, true, true, true, true, true, false, false] rfl rfl (by kernel_rfl) (fun _ _ _ h => h) (Or.inl ⟨by rfl, ?_⟩) hHeld ?_ ?_
          rotate_left
          · rintro w' ⟨s0, s1, s2⟩
            go_simp
            with_reducible rfl
          rotate_left
          · simp only [Act.put, List.setIfInBounds_toArray, List.set_cons_zero, List.set_cons_succ]
            rfl
          refine one_ (i := 7) (N := some 22) #[true, true, true, true, true, true, true, true, true, true, true, true, true, true, true, false, false] rfl rfl (by kernel_rfl) (by decide) (fun K hK => ?_)
          refine goes_ Try.func65 (by kernel_rfl) rfl #[.agg #[.slice A0 d.acts.length c0, .slice A1 d.subs.length c1, .slice A2 d.roles.length c2, .slice (some ad) d.objs.length c3, .slice A4 d.grps.length c4, .slice A5 d.mem.length c5, .slice A6 d.inh.length c6, .slice A7 d.par.length c7, .slice A8 d.wit.length c8, .slice A9 d.rules.length c9, .slice A10 d.exc.length c10], .string a, .string oN] (by rfl) rfl rfl (by (try simp only [List.map_toArray, List.map_cons, List.map_nil]); first | done | rfl) ?_
          refine (mask_go (Pol.mk d A0 c0 A1 c1 A2 c2 (some ad) c3 A4 c4 A5 c5 A6 c6 A7 c7 A8 c8 A9 c9 A10 c10) a oN _ (HP.out.below hHeld.1.below) HD.out KA.out KN.out HMA.out m1 HM1.out).mono ?_
          rintro e w9 ⟨rfl, hb⟩
          refine ⟨_, rfl, ?_⟩
          have hH := And.intro (hHeld.1.move hb) (And.intro (pw_cell_below hb hHeld.2.1) (pw_cell_below hb hHeld.2.2))
          clear hb hHeld
          refine hK.out _ _ hH (fun hHeld => ?_)
          clear hK K hH
          refine norm_ (a' := ?_) ?_ ?_
          rotate_left
          · show Act.put _ (some 22) _ = _
            simp only [Act.put, List.setIfInBounds_toArray, List.set_cons_zero, List.set_cons_succ]
            rfl
          refine one_ (i := 15) (N := some 30) #[true, true, true, true, true, true, true, true, true, true, true, true, true, true, true, true, false] rfl rfl (by kernel_rfl) (by decide) (fun K hK => ?_)
          refine goes_ Try.func65 (by kernel_rfl) rfl #[.agg #[.slice A0 d.acts.length c0, .slice A1 d.subs.length c1, .slice A2 d.roles.length c2, .slice (some ad) d.objs.length c3, .slice A4 d.grps.length c4, .slice A5 d.mem.length c5, .slice A6 d.inh.length c6, .slice A7 d.par.length c7, .slice A8 d.wit.length c8, .slice A9 d.rules.length c9, .slice A10 d.exc.length c10], .string b, .string oN] (by rfl) rfl rfl (by (try simp only [List.map_toArray, List.map_cons, List.map_nil]); first | done | rfl) ?_
          refine (mask_go (Pol.mk d A0 c0 A1 c1 A2 c2 (some ad) c3 A4 c4 A5 c5 A6 c6 A7 c7 A8 c8 A9 c9 A10 c10) b oN _ (HP.out.below hHeld.1.below) HD.out KB.out KN.out HMA.out m2 HM2.out).mono ?_
          rintro e w10 ⟨rfl, hb⟩
          refine ⟨_, rfl, ?_⟩
          have hH := And.intro (hHeld.1.move hb) (And.intro (pw_cell_below hb hHeld.2.1) (pw_cell_below hb hHeld.2.2))
          clear hb hHeld
          refine hK.out _ _ hH (fun hHeld => ?_)
          clear hK K hH
          refine norm_ (a' := ?_) ?_ ?_
          rotate_left
          · show Act.put _ (some 30) _ = _
            simp only [Act.put, List.setIfInBounds_toArray, List.set_cons_zero, List.set_cons_succ]
            rfl
          refine pure_ (i := 16) (N := some 31) (v := ?_) (a' := ?_) #[true, true, true, true, true, true, true, true, true, true, true, true, true, true, true, true, true] rfl rfl (by kernel_rfl) (fun _ _ _ h => h) (Or.inl ⟨by rfl, ?_⟩) ?_ ?_
          rotate_left
          · intro w'
            go_simp
            with_reducible rfl
          rotate_left
          · simp only [Act.put, List.setIfInBounds_toArray, List.set_cons_zero, List.set_cons_succ]
            rfl
          refine done_ (by kernel_rfl) ?_
          have HE11 := Aside0.mk hHeld.1
          clear hHeld e hx
          rw [HNB.out.out]
          go_wp2
          go_ret
          exact ⟨congrArg (fun b => Ending.returned (.bool b)) HQF.out.symm, HE11.out.below⟩
    · have hjj : j = d.objs.length := by omega
      subst hjj
      have HQT : Aside0 (q = true) := ⟨HQ.out.out.2 (by have h := HA.out; rw [List.take_length] at h; exact h)⟩
      go_wp2
      go_ret
      exact ⟨congrArg (fun b => Ending.returned (.bool b)) HQT.out.symm, HEj.out.below⟩

set_option maxHeartbeats 4000000 in
set_option maxRecDepth 100000 in
theorem columns_calls (p : Pol) (a b : ByteArray) (w : World) (hp : p.In w) (hd : p.d.Ok) (ka : okS a) (kb : okS b) (ha : p.d.acts.length ≤ 16) (q : Bool) (hq : q = true ↔ ∀ s ∈ p.d.subs, maskD p.d s.f0 a = maskD p.d s.f0 b) :
    Calls Try.prog 29 #[.agg p.cells, .string a, .string b] w fun e w' => e = .returned (.bool q) ∧ Below w.heap.size w w' := by
  obtain ⟨d, A0, c0, A1, c1, A2, c2, A3, c3, A4, c4, A5, c5, A6, c6, A7, c7, A8, c8, A9, c9, A10, c10⟩ := p
  have hmax : d.subs.length ≤ 9223372036854775807 := hp.h1.2.1
  have HP := Aside0.mk hp
  have HD := Aside0.mk hd
  have KA := Aside0.mk ka
  have KB := Aside0.mk kb
  have HMA := Aside0.mk ha
  have HQ : Aside0 (Holds (q = true ↔ ∀ s ∈ d.subs, maskD d s.f0 a = maskD d s.f0 b)) := ⟨⟨hq⟩⟩
  have HE := Aside0.mk (PE.mk (p := (Pol.mk d A0 c0 A1 c1 A2 c2 A3 c3 A4 c4 A5 c5 A6 c6 A7 c7 A8 c8 A9 c9 A10 c10)) (heap_alloc_new w (.cells #[.slice A0 d.acts.length c0, .slice A1 d.subs.length c1, .slice A2 d.roles.length c2, .slice A3 d.objs.length c3, .slice A4 d.grps.length c4, .slice A5 d.mem.length c5, .slice A6 d.inh.length c6, .slice A7 d.par.length c7, .slice A8 d.wit.length c8, .slice A9 d.rules.length c9, .slice A10 d.exc.length c10] 39)) (below_alloc (Below.refl _ w) (.cells #[.slice A0 d.acts.length c0, .slice A1 d.subs.length c1, .slice A2 d.roles.length c2, .slice A3 d.objs.length c3, .slice A4 d.grps.length c4, .slice A5 d.mem.length c5, .slice A6 d.inh.length c6, .slice A7 d.par.length c7, .slice A8 d.wit.length c8, .slice A9 d.rules.length c9, .slice A10 d.exc.length c10] 39)))
  clear hp hd ka kb ha hq
  unfold Pol.cells
  go_enter Try.func29, Try.ntmps29
  go_wp2
  obtain ⟨W0, hW0⟩ : ∃ W0, W0 = w.alloc (.cells #[.slice A0 d.acts.length c0, .slice A1 d.subs.length c1, .slice A2 d.roles.length c2, .slice A3 d.objs.length c3, .slice A4 d.grps.length c4, .slice A5 d.mem.length c5, .slice A6 d.inh.length c6, .slice A7 d.par.length c7, .slice A8 d.wit.length c8, .slice A9 d.rules.length c9, .slice A10 d.exc.length c10] 39) := ⟨_, rfl⟩
  rw [← hW0] at HE ⊢
  clear hW0
  go_loopw [7] (fun u7 wr => ∃ j : Nat, j ≤ d.subs.length ∧ u7 = .int .i64 j ∧ Aside0 (PE (Pol.mk d A0 c0 A1 c1 A2 c2 A3 c3 A4 c4 A5 c5 A6 c6 A7 c7 A8 c8 A9 c9 A10 c10) w wr) ∧ Aside0 (∀ s ∈ d.subs.take j, maskD d s.f0 a = maskD d s.f0 b)) (fun u7 _ => d.subs.length - (intOf u7).toNat)
  case atStart => exact ⟨0, Nat.zero_le _, rfl, HE, ⟨fun _ h => by simp at h⟩⟩
  case round =>
    obtain ⟨j, hj, rfl, HEj, HA⟩ := hrel
    have e := HEj.out.box.cell 1
    simp only [Pol.cells, List.getElem?_toArray, List.getElem?_cons_zero, List.getElem?_cons_succ] at e
    by_cases hlt : j < d.subs.length
    · have hpin := HP.out.below HEj.out.below
      obtain ⟨ad, q3, hx, _⟩ := at_T54 hpin.h1 (j : Int) (by omega) (by simp only []; omega)
      have q3 : A1 = some ad := q3
      subst q3
      have hget : rd_T54 d.subs (j : Int) = d.subs[j] := by simp [rd_T54, hlt]
      simp only [hget, Int.toNat_natCast] at hx
      have KN := Aside0.mk (HD.out.subs d.subs[j] (List.getElem_mem hlt))
      have hmem : ∃ x ∈ d.subs, x.f0 = d.subs[j].f0 := ⟨_, List.getElem_mem hlt, rfl⟩
      have htk : ∀ o ∈ d.subs.take (j + 1), o ∈ d.subs.take j ∨ o.f0 = d.subs[j].f0 := fun o ho => by
        rw [List.take_succ_eq_append_getElem hlt] at ho
        rcases List.mem_append.1 ho with h | h
        · exact Or.inl h
        · simp only [List.mem_cons, List.not_mem_nil, or_false] at h
          exact Or.inr (by rw [h])
      obtain ⟨sN, hoN⟩ : ∃ sN, sN = d.subs[j].f0 := ⟨_, rfl⟩
      rw [← hoN] at hx KN hmem htk
      obtain ⟨m1, hm1⟩ : ∃ m1, ((maskD d sN a : Nat) : Int) = m1 := ⟨_, rfl⟩
      obtain ⟨m2, hm2⟩ : ∃ m2, ((maskD d sN b : Nat) : Int) = m2 := ⟨_, rfl⟩
      have HM1 := Aside0.mk hm1
      have HM2 := Aside0.mk hm2
      have c01 : (j : Int) < d.subs.length := by omega
      by_cases hmm : m1 = m2
      · subst hmm
        have heq : maskD d sN a = maskD d sN b := by omega
        have HAn : Aside0 (∀ s ∈ d.subs.take (j + 1), maskD d s.f0 a = maskD d s.f0 b) := ⟨fun o ho => (htk o ho).elim (HA.out o) (fun h => h ▸ heq)⟩
        clear hpin hget hoN hmem htk hm1 hm2 heq HA
        · go_upto_region 4 with fail
          have HE9 := Aside0.mk (HEj.out.move (below_drew (Below.refl wr.heap.size wr)))
          refine start_ (n := 19) (S := fun w' => PE (Pol.mk d A0 c0 (some ad) c1 A2 c2 A3 c3 A4 c4 A5 c5 A6 c6 A7 c7 A8 c8 A9 c9 A10 c10) w w' ∧ w'.cell? ⟨w.heap.size, 1, none⟩ = some (.slice (some ad) d.subs.length c1) ∧ w'.cell? (ad.add (j * 2)) = some (.string sN)) (ds := [18]) #[false, false, false, false, false, false, false, false, false, false, false, false, false, false, false, false, false, false, false] (by kernel_rfl) rfl rfl ⟨HE9.out, pw_cell_below (below_drew (Below.refl wr.heap.size wr)) e, pw_cell_below (below_drew (Below.refl wr.heap.size wr)) hx⟩ (fun hHeld => ?_)
          obtain ⟨W6, hW6⟩ : ∃ W6, W6 = wr.drew := ⟨_, rfl⟩
          rw [← hW6] at hHeld ⊢
          clear hW6 HE9
          refine take_ (i := 0) (N := some 15) (v := .agg #[.slice A0 d.acts.length c0, .slice (some ad) d.subs.length c1, .slice A2 d.roles.length c2, .slice A3 d.objs.length c3, .slice A4 d.grps.length c4, .slice A5 d.mem.length c5, .slice A6 d.inh.length c6, .slice A7 d.par.length c7, .slice A8 d.wit.length c8, .slice A9 d.rules.length c9, .slice A10 d.exc.length c10]) (a' := ?_) #[true, false, false, false, false, false, false, false, false, false, false, false, false, false, false, false, false, false, false] rfl rfl (by kernel_rfl) (fun _ _ _ h => h) (yieldsIf_load_mid (by rfl) 39 (.tmp 3) rfl w.heap.size 0 rfl (#[.slice A0 d.acts.length c0, .slice (some ad) d.subs.length c1, .slice A2 d.roles.length c2, .slice A3 d.objs.length c3, .slice A4 d.grps.length c4, .slice A5 d.mem.length c5, .slice A6 d.inh.length c6, .slice A7 d.par.length c7, .slice A8 d.wit.length c8, .slice A9 d.rules.length c9, .slice A10 d.exc.length c10]).toList _ (fun w' hs => Stays.range (hs.1.box) _ rfl) Try.underlying39 rfl (by first | exact i39 | (simp; exact i39))) hHeld ?_ ?_
          rotate_left
          · simp only [Act.put, List.setIfInBounds_toArray, List.set_cons_zero, List.set_cons_succ]
            rfl
          refine pure_ (i := 1) (N := some 16) (v := ?_) (a' := ?_) #[true, true, false, false, false, false, false, false, false, false, false, false, false, false, false, false, false, false, false] rfl rfl (by kernel_rfl) (fun _ _ _ h => h) (Or.inl ⟨by rfl, ?_⟩) ?_ ?_
          rotate_left
          · intro w'
            go_simp
            with_reducible rfl
          rotate_left
          · simp only [Act.put, List.setIfInBounds_toArray, List.set_cons_zero, List.set_cons_succ]
            rfl
          refine take_ (i := 2) (N := some 17) (v := ?_) (a' := ?_) #[true, true, true, false, false, false, false, false, false, false, false, false, false, false, false, false, false, false, false] rfl rfl (by kernel_rfl) (fun _ _ _ h => h) (Or.inl ⟨by rfl, ?_⟩) hHeld ?_ ?_
          rotate_left
          · rintro w' ⟨s0, s1, s2⟩
            go_simp
            with_reducible rfl
          rotate_left
          · simp only [Act.put, List.setIfInBounds_toArray, List.set_cons_zero, List.set_cons_succ]
            rfl
          refine pure_ (i := 3) (N := some 18) (v := ?_) (a' := ?_) #[true, true, true, true, false, false, false, false, false, false, false, false, false, false, false, false, false, false, false] rfl rfl (by kernel_rfl) (fun _ _ _ h => h) (Or.inl ⟨by rfl, ?_⟩) ?_ ?_
          rotate_left
          · intro w'
            go_simp
            with_reducible rfl
          rotate_left
          · simp only [Act.put, List.setIfInBounds_toArray, List.set_cons_zero, List.set_cons_succ]
            rfl
          refine pure_ (i := 4) (N := some 19) (v := ?_) (a' := ?_) #[true, true, true, true, true, false, false, false, false, false, false, false, false, false, false, false, false, false, false] rfl rfl (by kernel_rfl) (fun _ _ _ h => h) (Or.inl ⟨by rfl, ?_⟩) ?_ ?_
          rotate_left
          · intro w'
            go_simp
            with_reducible rfl
          rotate_left
          · simp only [Act.put, List.setIfInBounds_toArray, List.set_cons_zero, List.set_cons_succ]
            rfl
          refine pure_ (i := 5) (N := some 20) (v := ?_) (a' := ?_) #[true, true, true, true, true, true, false, false, false, false, false, false, false, false, false, false, false, false, false] rfl rfl (by kernel_rfl) (fun _ _ _ h => h) (Or.inl ⟨by rfl, ?_⟩) ?_ ?_
          rotate_left
          · intro w'
            go_simp
            with_reducible rfl
          rotate_left
          · simp only [Act.put, List.setIfInBounds_toArray, List.set_cons_zero, List.set_cons_succ]
            rfl
          refine take_ (i := 6) (N := some 21) (v := ?_) (a' := ?_) #[true, true, true, true, true, true, true, false, false, false, false, false, false, false, false, false, false, false, false] rfl rfl (by kernel_rfl) (fun _ _ _ h => h) (Or.inl ⟨by rfl, ?_⟩) hHeld ?_ ?_
          rotate_left
          · rintro w' ⟨s0, s1, s2⟩
            go_simp
            with_reducible rfl
          rotate_left
          · simp only [Act.put, List.setIfInBounds_toArray, List.set_cons_zero, List.set_cons_succ]
            rfl
          refine pure_ (i := 7) (N := some 22) (v := ?_) (a' := ?_) #[true, true, true, true, true, true, true, true, false, false, false, false, false, false, false, false, false, false, false] rfl rfl (by kernel_rfl) (fun _ _ _ h => h) (Or.inl ⟨by rfl, ?_⟩) ?_ ?_
          rotate_left
          · intro w'
            go_simp
            with_reducible rfl
          rotate_left
          · simp only [Act.put, List.setIfInBounds_toArray, List.set_cons_zero, List.set_cons_succ]
            rfl
          refine take_ (i := 9) (N := some 24) (v := .agg #[.slice A0 d.acts.length c0, .slice (some ad) d.subs.length c1, .slice A2 d.roles.length c2, .slice A3 d.objs.length c3, .slice A4 d.grps.length c4, .slice A5 d.mem.length c5, .slice A6 d.inh.length c6, .slice A7 d.par.length c7, .slice A8 d.wit.length c8, .slice A9 d.rules.length c9, .slice A10 d.exc.length c10]) (a' := ?_) #[true, true, true, true, true, true, true, true, false, true, false, false, false, false, false, false, false, false, false] rfl rfl (by kernel_rfl) (fun _ _ _ h => h) (yieldsIf_load_mid (by rfl) 39 (.tmp 3) rfl w.heap.size 0 rfl (#[.slice A0 d.acts.length c0, .slice (some ad) d.subs.length c1, .slice A2 d.roles.length c2, .slice A3 d.objs.length c3, .slice A4 d.grps.length c4, .slice A5 d.mem.length c5, .slice A6 d.inh.length c6, .slice A7 d.par.length c7, .slice A8 d.wit.length c8, .slice A9 d.rules.length c9, .slice A10 d.exc.length c10]).toList _ (fun w' hs => Stays.range (hs.1.box) _ rfl) Try.underlying39 rfl (by first | exact i39 | (simp; exact i39))) hHeld ?_ ?_
          rotate_left
          · simp only [Act.put, List.setIfInBounds_toArray, List.set_cons_zero, List.set_cons_succ]
            rfl
          refine pure_ (i := 10) (N := some 25) (v := ?_) (a' := ?_) #[true, true, true, true, true, true, true, true, false, true, true, false, false, false, false, false, false, false, false] rfl rfl (by kernel_rfl) (fun _ _ _ h => h) (Or.inl ⟨by rfl, ?_⟩) ?_ ?_
          rotate_left
          · intro w'
            go_simp
            with_reducible rfl
          rotate_left
          · simp only [Act.put, List.setIfInBounds_toArray, List.set_cons_zero, List.set_cons_succ]
            rfl
          refine take_ (i := 11) (N := some 26) (v := ?_) (a' := ?_) #[true, true, true, true, true, true, true, true, false, true, true, true, false, false, false, false, false, false, false] rfl rfl (by kernel_rfl) (fun _ _ _ h => h) (Or.inl ⟨by rfl, ?_⟩) hHeld ?_ ?_
          rotate_left
          · rintro w' ⟨s0, s1, s2⟩
            go_simp
            with_reducible rfl
          rotate_left
          · simp only [Act.put, List.setIfInBounds_toArray, List.set_cons_zero, List.set_cons_succ]
            rfl
          refine pure_ (i := 12) (N := some 27) (v := ?_) (a' := ?_) #[true, true, true, true, true, true, true, true, false, true, true, true, true, false, false, false, false, false, false] rfl rfl (by kernel_rfl) (fun _ _ _ h => h) (Or.inl ⟨by rfl, ?_⟩) ?_ ?_
          rotate_left
          · intro w'
            go_simp
            with_reducible rfl
          rotate_left
          · simp only [Act.put, List.setIfInBounds_toArray, List.set_cons_zero, List.set_cons_succ]
            rfl
          refine pure_ (i := 13) (N := some 28) (v := ?_) (a' := ?_) #[true, true, true, true, true, true, true, true, false, true, true, true, true, true, false, false, false, false, false] rfl rfl (by kernel_rfl) (fun _ _ _ h => h) (Or.inl ⟨by rfl, ?_⟩) ?_ ?_
          rotate_left
          · intro w'
            go_simp
            with_reducible rfl
          rotate_left
          · simp only [Act.put, List.setIfInBounds_toArray, List.set_cons_zero, List.set_cons_succ]
            rfl
          refine pure_ (i := 14) (N := some 29) (v := ?_) (a' := ?_) #[true, true, true, true, true, true, true, true, false, true, true, true, true, true, true, false, false, false, false] rfl rfl (by kernel_rfl) (fun _ _ _ h => h) (Or.inl ⟨by rfl, ?_⟩) ?_ ?_
          rotate_left
          · intro w'
            go_simp
            with_reducible rfl
          rotate_left
          · simp only [Act.put, List.setIfInBounds_toArray, List.set_cons_zero, List.set_cons_succ]
            rfl
          refine take_ (i := 15) (N := some 30) (v := ?_) (a' := ?_) #[true, true, true, true, true, true, true, true, false, true, true, true, true, true, true, true, false, false, false] rfl rfl (by kernel_rfl) (fun _ _ _ h => h) (Or.inl ⟨by rfl, ?_⟩) hHeld ?_ ?_
          rotate_left
          · rintro w' ⟨s0, s1, s2⟩
            go_simp
            with_reducible rfl
          rotate_left
          · simp only [Act.put, List.setIfInBounds_toArray, List.set_cons_zero, List.set_cons_succ]
            rfl
          refine pure_ (i := 16) (N := some 31) (v := ?_) (a' := ?_) #[true, true, true, true, true, true, true, true, false, true, true, true, true, true, true, true, true, false, false] rfl rfl (by kernel_rfl) (fun _ _ _ h => h) (Or.inl ⟨by rfl, ?_⟩) ?_ ?_
          rotate_left
          · intro w'
            go_simp
            with_reducible rfl
          rotate_left
          · simp only [Act.put, List.setIfInBounds_toArray, List.set_cons_zero, List.set_cons_succ]
            rfl
          refine one_ (i := 8) (N := some 23) #[true, true, true, true, true, true, true, true, true, true, true, true, true, true, true, true, true, false, false] rfl rfl (by kernel_rfl) (by decide) (fun K hK => ?_)
          refine goes_ Try.func65 (by kernel_rfl) rfl #[.agg #[.slice A0 d.acts.length c0, .slice (some ad) d.subs.length c1, .slice A2 d.roles.length c2, .slice A3 d.objs.length c3, .slice A4 d.grps.length c4, .slice A5 d.mem.length c5, .slice A6 d.inh.length c6, .slice A7 d.par.length c7, .slice A8 d.wit.length c8, .slice A9 d.rules.length c9, .slice A10 d.exc.length c10], .string sN, .string a] (by rfl) rfl rfl (by (try simp only [List.map_toArray, List.map_cons, List.map_nil]); first | done | rfl) ?_
          refine (mask_go (Pol.mk d A0 c0 (some ad) c1 A2 c2 A3 c3 A4 c4 A5 c5 A6 c6 A7 c7 A8 c8 A9 c9 A10 c10) sN a _ (HP.out.below hHeld.1.below) HD.out KN.out KA.out HMA.out m1 HM1.out).mono ?_
          rintro e w9 ⟨rfl, hb⟩
          refine ⟨_, rfl, ?_⟩
          have hH := And.intro (hHeld.1.move hb) (And.intro (pw_cell_below hb hHeld.2.1) (pw_cell_below hb hHeld.2.2))
          clear hb hHeld
          refine hK.out _ _ hH (fun hHeld => ?_)
          clear hK K hH
          refine norm_ (a' := ?_) ?_ ?_
          rotate_left
          · show Act.put _ (some 23) _ = _
            simp only [Act.put, List.setIfInBounds_toArray, List.set_cons_zero, List.set_cons_succ]
            rfl
          refine one_ (i := 17) (N := some 32) #[true, true, true, true, true, true, true, true, true, true, true, true, true, true, true, true, true, true, false] rfl rfl (by kernel_rfl) (by decide) (fun K hK => ?_)
          refine goes_ Try.func65 (by kernel_rfl) rfl #[.agg #[.slice A0 d.acts.length c0, .slice (some ad) d.subs.length c1, .slice A2 d.roles.length c2, .slice A3 d.objs.length c3, .slice A4 d.grps.length c4, .slice A5 d.mem.length c5, .slice A6 d.inh.length c6, .slice A7 d.par.length c7, .slice A8 d.wit.length c8, .slice A9 d.rules.length c9, .slice A10 d.exc.length c10], .string sN, .string b] (by rfl) rfl rfl (by (try simp only [List.map_toArray, List.map_cons, List.map_nil]); first | done | rfl) ?_
          refine (mask_go (Pol.mk d A0 c0 (some ad) c1 A2 c2 A3 c3 A4 c4 A5 c5 A6 c6 A7 c7 A8 c8 A9 c9 A10 c10) sN b _ (HP.out.below hHeld.1.below) HD.out KN.out KB.out HMA.out m1 HM2.out).mono ?_
          rintro e w10 ⟨rfl, hb⟩
          refine ⟨_, rfl, ?_⟩
          have hH := And.intro (hHeld.1.move hb) (And.intro (pw_cell_below hb hHeld.2.1) (pw_cell_below hb hHeld.2.2))
          clear hb hHeld
          refine hK.out _ _ hH (fun hHeld => ?_)
          clear hK K hH
          refine norm_ (a' := ?_) ?_ ?_
          rotate_left
          · show Act.put _ (some 32) _ = _
            simp only [Act.put, List.setIfInBounds_toArray, List.set_cons_zero, List.set_cons_succ]
            rfl
          refine pure_ (i := 18) (N := some 33) (v := ?_) (a' := ?_) #[true, true, true, true, true, true, true, true, true, true, true, true, true, true, true, true, true, true, true] rfl rfl (by kernel_rfl) (fun _ _ _ h => h) (Or.inl ⟨by rfl, ?_⟩) ?_ ?_
          rotate_left
          · intro w'
            go_simp
            with_reducible rfl
          rotate_left
          · simp only [Act.put, List.setIfInBounds_toArray, List.set_cons_zero, List.set_cons_succ]
            rfl
          refine done_ (by kernel_rfl) ?_
          have HE11 := Aside0.mk hHeld.1
          clear hHeld e hx
          go_wp2
          go_roundw
          case rel => exact ⟨j + 1, by omega, by go_num, HE11, HAn⟩
          case measure => simp [intOf]; omega
      · have hne : ¬ maskD d sN a = maskD d sN b := by omega
        have HQF : Aside0 (q = false) := ⟨by cases q with
          | false => rfl
          | true => exact absurd (HQ.out.out.1 rfl) (fun h => hne (by obtain ⟨x, hx1, hx2⟩ := hmem; have h2 := h x hx1; rw [hx2] at h2; exact h2))⟩
        have HNB : Aside0 (Holds ((m1 != m2) = true)) := ⟨⟨by simp only [bne_iff_ne, ne_eq]; exact hmm⟩⟩
        clear hpin hget hoN hmem htk hm1 hm2 hne HA
        · go_upto_region 4 with fail
          have HE9 := Aside0.mk (HEj.out.move (below_drew (Below.refl wr.heap.size wr)))
          refine start_ (n := 19) (S := fun w' => PE (Pol.mk d A0 c0 (some ad) c1 A2 c2 A3 c3 A4 c4 A5 c5 A6 c6 A7 c7 A8 c8 A9 c9 A10 c10) w w' ∧ w'.cell? ⟨w.heap.size, 1, none⟩ = some (.slice (some ad) d.subs.length c1) ∧ w'.cell? (ad.add (j * 2)) = some (.string sN)) (ds := [18]) #[false, false, false, false, false, false, false, false, false, false, false, false, false, false, false, false, false, false, false] (by kernel_rfl) rfl rfl ⟨HE9.out, pw_cell_below (below_drew (Below.refl wr.heap.size wr)) e, pw_cell_below (below_drew (Below.refl wr.heap.size wr)) hx⟩ (fun hHeld => ?_)
          obtain ⟨W6, hW6⟩ : ∃ W6, W6 = wr.drew := ⟨_, rfl⟩
          rw [← hW6] at hHeld ⊢
          clear hW6 HE9
          refine take_ (i := 0) (N := some 15) (v := .agg #[.slice A0 d.acts.length c0, .slice (some ad) d.subs.length c1, .slice A2 d.roles.length c2, .slice A3 d.objs.length c3, .slice A4 d.grps.length c4, .slice A5 d.mem.length c5, .slice A6 d.inh.length c6, .slice A7 d.par.length c7, .slice A8 d.wit.length c8, .slice A9 d.rules.length c9, .slice A10 d.exc.length c10]) (a' := ?_) #[true, false, false, false, false, false, false, false, false, false, false, false, false, false, false, false, false, false, false] rfl rfl (by kernel_rfl) (fun _ _ _ h => h) (yieldsIf_load_mid (by rfl) 39 (.tmp 3) rfl w.heap.size 0 rfl (#[.slice A0 d.acts.length c0, .slice (some ad) d.subs.length c1, .slice A2 d.roles.length c2, .slice A3 d.objs.length c3, .slice A4 d.grps.length c4, .slice A5 d.mem.length c5, .slice A6 d.inh.length c6, .slice A7 d.par.length c7, .slice A8 d.wit.length c8, .slice A9 d.rules.length c9, .slice A10 d.exc.length c10]).toList _ (fun w' hs => Stays.range (hs.1.box) _ rfl) Try.underlying39 rfl (by first | exact i39 | (simp; exact i39))) hHeld ?_ ?_
          rotate_left
          · simp only [Act.put, List.setIfInBounds_toArray, List.set_cons_zero, List.set_cons_succ]
            rfl
          refine pure_ (i := 1) (N := some 16) (v := ?_) (a' := ?_) #[true, true, false, false, false, false, false, false, false, false, false, false, false, false, false, false, false, false, false] rfl rfl (by kernel_rfl) (fun _ _ _ h => h) (Or.inl ⟨by rfl, ?_⟩) ?_ ?_
          rotate_left
          · intro w'
            go_simp
            with_reducible rfl
          rotate_left
          · simp only [Act.put, List.setIfInBounds_toArray, List.set_cons_zero, List.set_cons_succ]
            rfl
          refine take_ (i := 2) (N := some 17) (v := ?_) (a' := ?_) #[true, true, true, false, false, false, false, false, false, false, false, false, false, false, false, false, false, false, false] rfl rfl (by kernel_rfl) (fun _ _ _ h => h) (Or.inl ⟨by rfl, ?_⟩) hHeld ?_ ?_
          rotate_left
          · rintro w' ⟨s0, s1, s2⟩
            go_simp
            with_reducible rfl
          rotate_left
          · simp only [Act.put, List.setIfInBounds_toArray, List.set_cons_zero, List.set_cons_succ]
            rfl
          refine pure_ (i := 3) (N := some 18) (v := ?_) (a' := ?_) #[true, true, true, true, false, false, false, false, false, false, false, false, false, false, false, false, false, false, false] rfl rfl (by kernel_rfl) (fun _ _ _ h => h) (Or.inl ⟨by rfl, ?_⟩) ?_ ?_
          rotate_left
          · intro w'
            go_simp
            with_reducible rfl
          rotate_left
          · simp only [Act.put, List.setIfInBounds_toArray, List.set_cons_zero, List.set_cons_succ]
            rfl
          refine pure_ (i := 4) (N := some 19) (v := ?_) (a' := ?_) #[true, true, true, true, true, false, false, false, false, false, false, false, false, false, false, false, false, false, false] rfl rfl (by kernel_rfl) (fun _ _ _ h => h) (Or.inl ⟨by rfl, ?_⟩) ?_ ?_
          rotate_left
          · intro w'
            go_simp
            with_reducible rfl
          rotate_left
          · simp only [Act.put, List.setIfInBounds_toArray, List.set_cons_zero, List.set_cons_succ]
            rfl
          refine pure_ (i := 5) (N := some 20) (v := ?_) (a' := ?_) #[true, true, true, true, true, true, false, false, false, false, false, false, false, false, false, false, false, false, false] rfl rfl (by kernel_rfl) (fun _ _ _ h => h) (Or.inl ⟨by rfl, ?_⟩) ?_ ?_
          rotate_left
          · intro w'
            go_simp
            with_reducible rfl
          rotate_left
          · simp only [Act.put, List.setIfInBounds_toArray, List.set_cons_zero, List.set_cons_succ]
            rfl
          refine take_ (i := 6) (N := some 21) (v := ?_) (a' := ?_) #[true, true, true, true, true, true, true, false, false, false, false, false, false, false, false, false, false, false, false] rfl rfl (by kernel_rfl) (fun _ _ _ h => h) (Or.inl ⟨by rfl, ?_⟩) hHeld ?_ ?_
          rotate_left
          · rintro w' ⟨s0, s1, s2⟩
            go_simp
            with_reducible rfl
          rotate_left
          · simp only [Act.put, List.setIfInBounds_toArray, List.set_cons_zero, List.set_cons_succ]
            rfl
          refine pure_ (i := 7) (N := some 22) (v := ?_) (a' := ?_) #[true, true, true, true, true, true, true, true, false, false, false, false, false, false, false, false, false, false, false] rfl rfl (by kernel_rfl) (fun _ _ _ h => h) (Or.inl ⟨by rfl, ?_⟩) ?_ ?_
          rotate_left
          · intro w'
            go_simp
            with_reducible rfl
          rotate_left
          · simp only [Act.put, List.setIfInBounds_toArray, List.set_cons_zero, List.set_cons_succ]
            rfl
          refine take_ (i := 9) (N := some 24) (v := .agg #[.slice A0 d.acts.length c0, .slice (some ad) d.subs.length c1, .slice A2 d.roles.length c2, .slice A3 d.objs.length c3, .slice A4 d.grps.length c4, .slice A5 d.mem.length c5, .slice A6 d.inh.length c6, .slice A7 d.par.length c7, .slice A8 d.wit.length c8, .slice A9 d.rules.length c9, .slice A10 d.exc.length c10]) (a' := ?_) #[true, true, true, true, true, true, true, true, false, true, false, false, false, false, false, false, false, false, false] rfl rfl (by kernel_rfl) (fun _ _ _ h => h) (yieldsIf_load_mid (by rfl) 39 (.tmp 3) rfl w.heap.size 0 rfl (#[.slice A0 d.acts.length c0, .slice (some ad) d.subs.length c1, .slice A2 d.roles.length c2, .slice A3 d.objs.length c3, .slice A4 d.grps.length c4, .slice A5 d.mem.length c5, .slice A6 d.inh.length c6, .slice A7 d.par.length c7, .slice A8 d.wit.length c8, .slice A9 d.rules.length c9, .slice A10 d.exc.length c10]).toList _ (fun w' hs => Stays.range (hs.1.box) _ rfl) Try.underlying39 rfl (by first | exact i39 | (simp; exact i39))) hHeld ?_ ?_
          rotate_left
          · simp only [Act.put, List.setIfInBounds_toArray, List.set_cons_zero, List.set_cons_succ]
            rfl
          refine pure_ (i := 10) (N := some 25) (v := ?_) (a' := ?_) #[true, true, true, true, true, true, true, true, false, true, true, false, false, false, false, false, false, false, false] rfl rfl (by kernel_rfl) (fun _ _ _ h => h) (Or.inl ⟨by rfl, ?_⟩) ?_ ?_
          rotate_left
          · intro w'
            go_simp
            with_reducible rfl
          rotate_left
          · simp only [Act.put, List.setIfInBounds_toArray, List.set_cons_zero, List.set_cons_succ]
            rfl
          refine take_ (i := 11) (N := some 26) (v := ?_) (a' := ?_) #[true, true, true, true, true, true, true, true, false, true, true, true, false, false, false, false, false, false, false] rfl rfl (by kernel_rfl) (fun _ _ _ h => h) (Or.inl ⟨by rfl, ?_⟩) hHeld ?_ ?_
          rotate_left
          · rintro w' ⟨s0, s1, s2⟩
            go_simp
            with_reducible rfl
          rotate_left
          · simp only [Act.put, List.setIfInBounds_toArray, List.set_cons_zero, List.set_cons_succ]
            rfl
          refine pure_ (i := 12) (N := some 27) (v := ?_) (a' := ?_) #[true, true, true, true, true, true, true, true, false, true, true, true, true, false, false, false, false, false, false] rfl rfl (by kernel_rfl) (fun _ _ _ h => h) (Or.inl ⟨by rfl, ?_⟩) ?_ ?_
          rotate_left
          · intro w'
            go_simp
            with_reducible rfl
          rotate_left
          · simp only [Act.put, List.setIfInBounds_toArray, List.set_cons_zero, List.set_cons_succ]
            rfl
          refine pure_ (i := 13) (N := some 28) (v := ?_) (a' := ?_) #[true, true, true, true, true, true, true, true, false, true, true, true, true, true, false, false, false, false, false] rfl rfl (by kernel_rfl) (fun _ _ _ h => h) (Or.inl ⟨by rfl, ?_⟩) ?_ ?_
          rotate_left
          · intro w'
            go_simp
            with_reducible rfl
          rotate_left
          · simp only [Act.put, List.setIfInBounds_toArray, List.set_cons_zero, List.set_cons_succ]
            rfl
          refine pure_ (i := 14) (N := some 29) (v := ?_) (a' := ?_) #[true, true, true, true, true, true, true, true, false, true, true, true, true, true, true, false, false, false, false] rfl rfl (by kernel_rfl) (fun _ _ _ h => h) (Or.inl ⟨by rfl, ?_⟩) ?_ ?_
          rotate_left
          · intro w'
            go_simp
            with_reducible rfl
          rotate_left
          · simp only [Act.put, List.setIfInBounds_toArray, List.set_cons_zero, List.set_cons_succ]
            rfl
          refine take_ (i := 15) (N := some 30) (v := ?_) (a' := ?_) #[true, true, true, true, true, true, true, true, false, true, true, true, true, true, true, true, false, false, false] rfl rfl (by kernel_rfl) (fun _ _ _ h => h) (Or.inl ⟨by rfl, ?_⟩) hHeld ?_ ?_
          rotate_left
          · rintro w' ⟨s0, s1, s2⟩
            go_simp
            with_reducible rfl
          rotate_left
          · simp only [Act.put, List.setIfInBounds_toArray, List.set_cons_zero, List.set_cons_succ]
            rfl
          refine pure_ (i := 16) (N := some 31) (v := ?_) (a' := ?_) #[true, true, true, true, true, true, true, true, false, true, true, true, true, true, true, true, true, false, false] rfl rfl (by kernel_rfl) (fun _ _ _ h => h) (Or.inl ⟨by rfl, ?_⟩) ?_ ?_
          rotate_left
          · intro w'
            go_simp
            with_reducible rfl
          rotate_left
          · simp only [Act.put, List.setIfInBounds_toArray, List.set_cons_zero, List.set_cons_succ]
            rfl
          refine one_ (i := 8) (N := some 23) #[true, true, true, true, true, true, true, true, true, true, true, true, true, true, true, true, true, false, false] rfl rfl (by kernel_rfl) (by decide) (fun K hK => ?_)
          refine goes_ Try.func65 (by kernel_rfl) rfl #[.agg #[.slice A0 d.acts.length c0, .slice (some ad) d.subs.length c1, .slice A2 d.roles.length c2, .slice A3 d.objs.length c3, .slice A4 d.grps.length c4, .slice A5 d.mem.length c5, .slice A6 d.inh.length c6, .slice A7 d.par.length c7, .slice A8 d.wit.length c8, .slice A9 d.rules.length c9, .slice A10 d.exc.length c10], .string sN, .string a] (by rfl) rfl rfl (by (try simp only [List.map_toArray, List.map_cons, List.map_nil]); first | done | rfl) ?_
          refine (mask_go (Pol.mk d A0 c0 (some ad) c1 A2 c2 A3 c3 A4 c4 A5 c5 A6 c6 A7 c7 A8 c8 A9 c9 A10 c10) sN a _ (HP.out.below hHeld.1.below) HD.out KN.out KA.out HMA.out m1 HM1.out).mono ?_
          rintro e w9 ⟨rfl, hb⟩
          refine ⟨_, rfl, ?_⟩
          have hH := And.intro (hHeld.1.move hb) (And.intro (pw_cell_below hb hHeld.2.1) (pw_cell_below hb hHeld.2.2))
          clear hb hHeld
          refine hK.out _ _ hH (fun hHeld => ?_)
          clear hK K hH
          refine norm_ (a' := ?_) ?_ ?_
          rotate_left
          · show Act.put _ (some 23) _ = _
            simp only [Act.put, List.setIfInBounds_toArray, List.set_cons_zero, List.set_cons_succ]
            rfl
          refine one_ (i := 17) (N := some 32) #[true, true, true, true, true, true, true, true, true, true, true, true, true, true, true, true, true, true, false] rfl rfl (by kernel_rfl) (by decide) (fun K hK => ?_)
          refine goes_ Try.func65 (by kernel_rfl) rfl #[.agg #[.slice A0 d.acts.length c0, .slice (some ad) d.subs.length c1, .slice A2 d.roles.length c2, .slice A3 d.objs.length c3, .slice A4 d.grps.length c4, .slice A5 d.mem.length c5, .slice A6 d.inh.length c6, .slice A7 d.par.length c7, .slice A8 d.wit.length c8, .slice A9 d.rules.length c9, .slice A10 d.exc.length c10], .string sN, .string b] (by rfl) rfl rfl (by (try simp only [List.map_toArray, List.map_cons, List.map_nil]); first | done | rfl) ?_
          refine (mask_go (Pol.mk d A0 c0 (some ad) c1 A2 c2 A3 c3 A4 c4 A5 c5 A6 c6 A7 c7 A8 c8 A9 c9 A10 c10) sN b _ (HP.out.below hHeld.1.below) HD.out KN.out KB.out HMA.out m2 HM2.out).mono ?_
          rintro e w10 ⟨rfl, hb⟩
          refine ⟨_, rfl, ?_⟩
          have hH := And.intro (hHeld.1.move hb) (And.intro (pw_cell_below hb hHeld.2.1) (pw_cell_below hb hHeld.2.2))
          clear hb hHeld
          refine hK.out _ _ hH (fun hHeld => ?_)
          clear hK K hH
          refine norm_ (a' := ?_) ?_ ?_
          rotate_left
          · show Act.put _ (some 32) _ = _
            simp only [Act.put, List.setIfInBounds_toArray, List.set_cons_zero, List.set_cons_succ]
            rfl
          refine pure_ (i := 18) (N := some 33) (v := ?_) (a' := ?_) #[true, true, true, true, true, true, true, true, true, true, true, true, true, true, true, true, true, true, true] rfl rfl (by kernel_rfl) (fun _ _ _ h => h) (Or.inl ⟨by rfl, ?_⟩) ?_ ?_
          rotate_left
          · intro w'
            go_simp
            with_reducible rfl
          rotate_left
          · simp only [Act.put, List.setIfInBounds_toArray, List.set_cons_zero, List.set_cons_succ]
            rfl
          refine done_ (by kernel_rfl) ?_
          have HE11 := Aside0.mk hHeld.1
          clear hHeld e hx
          rw [HNB.out.out]
          go_wp2
          go_ret
          exact ⟨congrArg (fun b => Ending.returned (.bool b)) HQF.out.symm, HE11.out.below⟩
    · have hjj : j = d.subs.length := by omega
      subst hjj
      have HQT : Aside0 (q = true) := ⟨HQ.out.out.2 (by have h := HA.out; rw [List.take_length] at h; exact h)⟩
      go_wp2
      go_ret
      exact ⟨congrArg (fun b => Ending.returned (.bool b)) HQT.out.symm, HEj.out.below⟩

end Go.Proofs.Ythaiodklfoegiaa.CLClass

/- Numbers of classes rise; classes and masks: plain. -/
namespace Go.Proofs.Ythaiodklfoegiaa.CRise
open Go.RowKit Go.Proofs.YthaiodklfoegiaaW.PrintWords Go.Proofs.YthaiodklfoegiaaW.PrintLast Go.Proofs.YthaiodklfoegiaaW.PrintMore Go.Proofs.Ythaiodklfoegiaa.CPure Go.Proofs.Ythaiodklfoegiaa.CSame Go.Proofs.Ythaiodklfoegiaa.CSays Go.Proofs.Ythaiodklfoegiaa.MPol
open Go.Proofs.Ythaiodklfoegiaa Go.Proofs.Ythaiodklfoegiaa.PG

section
variable {α : Type} [DecidableEq α]
theorem num_app (l r : List α) {y : α} (h : y ∈ l) : num (l ++ r) y = num l y := by
  refine snoc_ind (P := fun r => num (l ++ r) y = num l y) (by simp) (fun r x ih => ?_) r
  rw [← List.append_assoc, num_old (List.mem_append_left _ h), ih]
theorem uniq_next (ls : List α) {n : Nat} (h : n < ls.length) :
    num ls ls[n] ≤ ((uniq (ls.take n)).length : Int) + 1 ∧ mx ((uniq (ls.take n)).length : Int) (num ls ls[n]) = ((uniq (ls.take (n + 1))).length : Int) := by
  have e : ls.take (n + 1) = ls.take n ++ [ls[n]] := List.take_succ_eq_append_getElem h
  have e2 : num ls ls[n] = num (ls.take n ++ [ls[n]]) ls[n] := by
    have h2 := num_app (ls.take (n + 1)) (ls.drop (n + 1)) (y := ls[n]) (by rw [e]; exact List.mem_append_right _ (List.mem_singleton_self _))
    rw [List.take_append_drop, e] at h2
    exact h2
  rw [e2, e]
  by_cases hm : ls[n] ∈ ls.take n
  · rw [num_old hm, uniq_snoc, one1, if_pos (mem_uniq.2 hm)]
    have h1 := num_le hm
    refine ⟨by omega, ?_⟩
    unfold mx; split <;> omega
  · rw [num_new hm, uniq_snoc, one1, if_neg (fun e => hm (mem_uniq.1 e))]
    refine ⟨by omega, ?_⟩
    simp only [List.length_append, List.length_singleton]
    unfold mx; split <;> omega
theorem rising_ev (ls : List α) (hl : ls.length ≤ 64) : ∀ (d n k : Nat), n + d = ls.length → d < k →
    gatehouselaw11_rising.l0 k (numsOf ls) ((uniq (ls.take n)).length : Int) n = some true
  | 0, n, k, hn, hk => by
    obtain ⟨k, rfl⟩ : ∃ m, k = m + 1 := ⟨k - 1, by omega⟩
    have hlen : (numsOf ls).length = ls.length := by simp [numsOf]
    simp only [gatehouselaw11_rising.l0]
    rw [if_neg (by omega)]
  | d + 1, n, k, hn, hk => by
    obtain ⟨k, rfl⟩ : ∃ m, k = m + 1 := ⟨k - 1, by omega⟩
    have hlen : (numsOf ls).length = ls.length := by simp [numsOf]
    have hlt : n < ls.length := by omega
    have hx : rd (numsOf ls) (n : Int) = num ls ls[n] := rd_get (by simp [numsOf, hlt])
    have h1 := num_pos ls ls[n]
    have h2 := uniq_next ls hlt
    have h3 := uniq_length (ls.take n)
    have h4 := List.length_take_le n ls
    simp only [gatehouselaw11_rising.l0]
    rw [if_pos (by omega), if_pos (by omega), hx, if_neg (by omega), wrap_small' (by omega), if_neg (by omega), wrap_small' (by omega), h2.2]
    have := rising_ev ls hl d (n + 1) k (by omega) (by omega)
    simpa using this
where wrap_small' {i : Int} (h : 0 ≤ i ∧ i ≤ 1000) : wrap64 i = i := by unfold wrap64; omega
theorem rising_f (ls : List α) (hl : ls.length ≤ 64) : gatehouselaw11_rising.f 65 (numsOf ls) = some true := by
  have := rising_ev ls hl ls.length 0 65 (by omega) (by omega)
  simpa [gatehouselaw11_rising.f, uniq] using this
end
theorem rising_go (A : Option Addr) (c n m : Nat) (M : Nat → Nat → Int) (w : World) (l : List Int) (q : Nat) (hl : l = ofM n m M) (hn : n ≤ 64) (hq : l.length = q) (hC : Kd.C (Kd.int .i64) w A l.length l) (hc : l.length ≤ c) :
    Calls Try.prog 27 #[.slice A q c] w fun e w' => e = .returned (.bool true) ∧ Below w.heap.size w w' := by
  subst hq
  exact gatehouselaw11_rising.calls 65 A c l true w hC hc (by rw [hl]; exact rising_f _ (by rw [lines_length]; exact hn))

/-- Two subjects are of one class just if they have the same masks. -/
theorem of_eq {n m : Nat} {M : Nat → Nat → Int} (hm : m ≤ 64) {i k : Nat} (hi : i < n) (hk : k < n) {x y : Int} (hx : (ofM n m M)[i]? = some x) (hy : (ofM n m M)[k]? = some y) : x = y ↔ ∀ j, j < m → M i j = M k j := by
  obtain ⟨h1, e1⟩ := ofM_get (m := m) (M := M) hi
  obtain ⟨h2, e2⟩ := ofM_get (m := m) (M := M) hk
  rw [e1] at hx
  rw [e2] at hy
  obtain rfl := Option.some.inj hx
  obtain rfl := Option.some.inj hy
  rw [num_eq (List.getElem_mem h1) (List.getElem_mem h2), lines_eq hm h1 h2]
theorem matD_at (d : PolD) {i j : Nat} (hi : i < d.subs.length) (hj : j < d.objs.length) : matD d i j = ((maskD d d.subs[i].f0 d.objs[j] : Nat) : Int) := by
  unfold matD
  rw [List.getD_eq_getElem?_getD, List.getD_eq_getElem?_getD, List.getElem?_eq_getElem hj, List.getElem?_map, List.getElem?_eq_getElem hi]
  rfl
theorem rows_iff (d : PolD) (ho : d.objs.length ≤ 64) {i k : Nat} (hi : i < d.subs.length) (hk : k < d.subs.length) {x y : Int}
    (hx : (ofM d.subs.length d.objs.length (matD d))[i]? = some x) (hy : (ofM d.subs.length d.objs.length (matD d))[k]? = some y) :
    x = y ↔ ∀ o ∈ d.objs, maskD d d.subs[i].f0 o = maskD d d.subs[k].f0 o := by
  rw [of_eq ho hi hk hx hy]
  constructor
  · intro h o hm
    obtain ⟨j, hj, rfl⟩ := List.getElem_of_mem hm
    have := h j hj
    rw [matD_at d hi hj, matD_at d hk hj] at this
    omega
  · intro h j hj
    rw [matD_at d hi hj, matD_at d hk hj, h _ (List.getElem_mem hj)]
theorem cols_iff (d : PolD) (hs : d.subs.length ≤ 64) {i k : Nat} (hi : i < d.objs.length) (hk : k < d.objs.length) {x y : Int}
    (hx : (ofM d.objs.length d.subs.length (fun j i => matD d i j))[i]? = some x) (hy : (ofM d.objs.length d.subs.length (fun j i => matD d i j))[k]? = some y) :
    x = y ↔ ∀ s ∈ d.subs, maskD d s.f0 d.objs[i] = maskD d s.f0 d.objs[k] := by
  rw [of_eq hs hi hk hx hy]
  constructor
  · intro h o hm
    obtain ⟨j, hj, rfl⟩ := List.getElem_of_mem hm
    have := h j hj
    rw [matD_at d hj hi, matD_at d hj hk] at this
    omega
  · intro h j hj
    rw [matD_at d hj hi, matD_at d hj hk, h _ (List.getElem_mem hj)]
end Go.Proofs.Ythaiodklfoegiaa.CRise

/- gatehouselaw11.GraphClasses, walked. -/
namespace Go.Proofs.Ythaiodklfoegiaa.CLClasses
open Go.RowKit Go.Proofs.YthaiodklfoegiaaW.PrintWords Go.Proofs.YthaiodklfoegiaaW.PrintLast Go.Proofs.YthaiodklfoegiaaW.PrintMore Go.Proofs.Ythaiodklfoegiaa.BMap Go.Proofs.Ythaiodklfoegiaa.BRow Go.Proofs.Ythaiodklfoegiaa.CPure Go.Proofs.Ythaiodklfoegiaa.CSame Go.Proofs.Ythaiodklfoegiaa.CCompile Go.Proofs.Ythaiodklfoegiaa.CSays Go.Proofs.Ythaiodklfoegiaa.CAlive Go.Proofs.Ythaiodklfoegiaa.CLSays Go.Proofs.Ythaiodklfoegiaa.CMask Go.Proofs.Ythaiodklfoegiaa.CLClass Go.Proofs.Ythaiodklfoegiaa.CRise Go.Proofs.Ythaiodklfoegiaa.GValid Go.Proofs.Ythaiodklfoegiaa.MLines Go.Proofs.Ythaiodklfoegiaa.MSide Go.Proofs.Ythaiodklfoegiaa.MPol Go.Maps
open Go.Proofs.Ythaiodklfoegiaa Go.Proofs.Ythaiodklfoegiaa.PG

/-- What stays: the policy, the graph. -/
structure GE (p : Pol) (g : G) (w W : World) (g8 : Nat) : Prop where
  box : Stays W w.heap.size p.cells 39
  gr : Stays W g8 (gC g) 26
  g : g.In W
  below : Below w.heap.size w W
theorem GE.move {p : Pol} {g : G} {w W W1 : World} {g8 : Nat} (h : GE p g w W g8) (hb : Below W.heap.size W W1) : GE p g w W1 g8 := ⟨h.box.below hb, h.gr.below hb, h.g.below hb, below_then h.below h.below.size hb⟩

set_option maxHeartbeats 4000000 in
set_option maxRecDepth 100000 in
theorem law_no (p : Pol) (a b : Int) (w : World) (hp : p.In w) (hf : ¬ fitsP p.d) :
    Calls Try.prog 9 #[.agg p.cells, .int .i64 a, .int .i64 b] w fun e w' => e = .returned (.bool true) ∧ Below w.heap.size w w' := by
  obtain ⟨d, A0, c0, A1, c1, A2, c2, A3, c3, A4, c4, A5, c5, A6, c6, A7, c7, A8, c8, A9, c9, A10, c10⟩ := p
  have HP := Aside0.mk hp
  have HF := Aside0.mk (show (false = true ↔ fitsP d) from ⟨fun h => absurd h (by decide), fun h => absurd h hf⟩)
  clear hp hf
  have hst : Stays (w.alloc (.cells #[.slice A0 d.acts.length c0, .slice A1 d.subs.length c1, .slice A2 d.roles.length c2, .slice A3 d.objs.length c3, .slice A4 d.grps.length c4, .slice A5 d.mem.length c5, .slice A6 d.inh.length c6, .slice A7 d.par.length c7, .slice A8 d.wit.length c8, .slice A9 d.rules.length c9, .slice A10 d.exc.length c10] 39)) w.heap.size #[.slice A0 d.acts.length c0, .slice A1 d.subs.length c1, .slice A2 d.roles.length c2, .slice A3 d.objs.length c3, .slice A4 d.grps.length c4, .slice A5 d.mem.length c5, .slice A6 d.inh.length c6, .slice A7 d.par.length c7, .slice A8 d.wit.length c8, .slice A9 d.rules.length c9, .slice A10 d.exc.length c10] 39 := heap_alloc_new w _
  have HST := Aside0.mk hst
  have HB := Aside0.mk (below_alloc (Below.refl _ w) (.cells #[.slice A0 d.acts.length c0, .slice A1 d.subs.length c1, .slice A2 d.roles.length c2, .slice A3 d.objs.length c3, .slice A4 d.grps.length c4, .slice A5 d.mem.length c5, .slice A6 d.inh.length c6, .slice A7 d.par.length c7, .slice A8 d.wit.length c8, .slice A9 d.rules.length c9, .slice A10 d.exc.length c10] 39))
  clear hst
  unfold Pol.cells
  go_enter Try.func9, Try.ntmps9
  go_wp2_with (first | (go_at_call 22; ((with_reducible refine (alive_calls _).mono ?_)); rintro e w2 ⟨rfl, hb⟩; have HB2 := Aside0.mk (below_then HB.out HB.out.size hb); have HST2 := Aside0.mk (HST.out.below hb); clear hb) | ((with_reducible refine gate_dst (N := 12) rfl ?_); refine wpList_load_blk rfl 39 (.tmp 3) rfl w.heap.size ?hx #[.slice A0 d.acts.length c0, .slice A1 d.subs.length c1, .slice A2 d.roles.length c2, .slice A3 d.objs.length c3, .slice A4 d.grps.length c4, .slice A5 d.mem.length c5, .slice A6 d.inh.length c6, .slice A7 d.par.length c7, .slice A8 d.wit.length c8, .slice A9 d.rules.length c9, .slice A10 d.exc.length c10] 39 HST2.out _ Try.underlying39 rfl i39 ?_; (case hx => rfl)) | (go_at_call 23; (refine (fits_go (Pol.mk d A0 c0 A1 c1 A2 c2 A3 c3 A4 c4 A5 c5 A6 c6 A7 c7 A8 c8 A9 c9 A10 c10) _ (HP.out.below HB2.out) false HF.out).mono ?_); rintro e w3 ⟨rfl, hb⟩; have HB3 := Aside0.mk (below_then HB2.out HB2.out.size hb); clear hb))
  go_ret
  exact ⟨rfl, HB3.out⟩

set_option maxHeartbeats 8000000 in
set_option maxRecDepth 100000 in
theorem law_yes (p : Pol) (a b : Int) (w : World) (hp : p.In w) (hd : p.d.Ok) (hf : fitsP p.d) :
    Calls Try.prog 9 #[.agg p.cells, .int .i64 a, .int .i64 b] w fun e w' => e = .returned (.bool true) ∧ Below w.heap.size w w' := by
  obtain ⟨d, A0, c0, A1, c1, A2, c2, A3, c3, A4, c4, A5, c5, A6, c6, A7, c7, A8, c8, A9, c9, A10, c10⟩ := p
  have HP := Aside0.mk hp
  have HD := Aside0.mk hd
  have HFF := Aside0.mk (show fitsP d from hf)
  clear hp hd hf
  have hst : Stays (w.alloc (.cells #[.slice A0 d.acts.length c0, .slice A1 d.subs.length c1, .slice A2 d.roles.length c2, .slice A3 d.objs.length c3, .slice A4 d.grps.length c4, .slice A5 d.mem.length c5, .slice A6 d.inh.length c6, .slice A7 d.par.length c7, .slice A8 d.wit.length c8, .slice A9 d.rules.length c9, .slice A10 d.exc.length c10] 39)) w.heap.size #[.slice A0 d.acts.length c0, .slice A1 d.subs.length c1, .slice A2 d.roles.length c2, .slice A3 d.objs.length c3, .slice A4 d.grps.length c4, .slice A5 d.mem.length c5, .slice A6 d.inh.length c6, .slice A7 d.par.length c7, .slice A8 d.wit.length c8, .slice A9 d.rules.length c9, .slice A10 d.exc.length c10] 39 := heap_alloc_new w _
  have HST := Aside0.mk hst
  have HB := Aside0.mk (below_alloc (Below.refl _ w) (.cells #[.slice A0 d.acts.length c0, .slice A1 d.subs.length c1, .slice A2 d.roles.length c2, .slice A3 d.objs.length c3, .slice A4 d.grps.length c4, .slice A5 d.mem.length c5, .slice A6 d.inh.length c6, .slice A7 d.par.length c7, .slice A8 d.wit.length c8, .slice A9 d.rules.length c9, .slice A10 d.exc.length c10] 39))
  clear hst
  unfold Pol.cells
  go_enter Try.func9, Try.ntmps9
  go_upto_region 4 with (first | (go_at_call 22; ((with_reducible refine (alive_calls _).mono ?_)); rintro e w2 ⟨rfl, hb⟩; have HB2 := Aside0.mk (below_then HB.out HB.out.size hb); have HST2 := Aside0.mk (HST.out.below hb); clear hb) | ((with_reducible refine gate_dst (N := 12) rfl ?_); refine wpList_load_blk rfl 39 (.tmp 3) rfl w.heap.size ?hx #[.slice A0 d.acts.length c0, .slice A1 d.subs.length c1, .slice A2 d.roles.length c2, .slice A3 d.objs.length c3, .slice A4 d.grps.length c4, .slice A5 d.mem.length c5, .slice A6 d.inh.length c6, .slice A7 d.par.length c7, .slice A8 d.wit.length c8, .slice A9 d.rules.length c9, .slice A10 d.exc.length c10] 39 HST2.out _ Try.underlying39 rfl i39 ?_; (case hx => rfl)) | (go_at_call 23; (refine (fits_go (Pol.mk d A0 c0 A1 c1 A2 c2 A3 c3 A4 c4 A5 c5 A6 c6 A7 c7 A8 c8 A9 c9 A10 c10) _ (HP.out.below HB2.out) true ⟨fun _ => HFF.out, fun _ => rfl⟩).mono ?_); rintro e w3 ⟨rfl, hb⟩; have HB3 := Aside0.mk (below_then HB2.out HB2.out.size hb); have HST3 := Aside0.mk (HST2.out.below hb); clear hb))
  go_upto_region 5 with (first | ((with_reducible refine gate_dst (N := 16) rfl ?_); refine wpList_load_blk rfl 39 (.tmp 3) rfl w.heap.size ?hx2 #[.slice A0 d.acts.length c0, .slice A1 d.subs.length c1, .slice A2 d.roles.length c2, .slice A3 d.objs.length c3, .slice A4 d.grps.length c4, .slice A5 d.mem.length c5, .slice A6 d.inh.length c6, .slice A7 d.par.length c7, .slice A8 d.wit.length c8, .slice A9 d.rules.length c9, .slice A10 d.exc.length c10] 39 HST3.out _ Try.underlying39 rfl i39 ?_; (case hx2 => rfl)) | (go_at_call 16; (refine (compile_go (Pol.mk d A0 c0 A1 c1 A2 c2 A3 c3 A4 c4 A5 c5 A6 c6 A7 c7 A8 c8 A9 c9 A10 c10) _ (HP.out.below HB3.out) HD.out HFF.out).mono ?_); rintro e w4 ⟨g, rfl, hg, hc, hb⟩; have HB4 := Aside0.mk (below_then HB3.out HB3.out.size hb); have HST4 := Aside0.mk (HST3.out.below hb); have HG4 := Aside0.mk hg; have HC := Aside0.mk hc; clear hb hg hc) | ((with_reducible refine gate_dst (N := 8) rfl ?_); refine wpList_alloc_store rfl rfl 26 8 (.tmp 17) rfl rfl rfl #[.slice none 0 0, .slice none 0 0, .slice none 0 0, .slice none 0 0, .slice none 0 0, .slice none 0 0] (gC g) _ (z26 _) rfl i26 rfl (by simp [Value.oneCell']) ?hy ?hp ?_; (case hy => rfl); (case hp => rfl)))
  (try simp only [Act.put])
  have hb5 := below_alloc (Below.refl _ w4) (.cells (gC g) 26)
  have hs5 := heap_alloc_new w4 (.cells (gC g) 26)
  have hE : GE (Pol.mk d A0 c0 A1 c1 A2 c2 A3 c3 A4 c4 A5 c5 A6 c6 A7 c7 A8 c8 A9 c9 A10 c10) g w (w4.alloc (.cells (gC g) 26)) w4.heap.size := ⟨HST4.out.below hb5, hs5, HG4.out.below hb5, below_then HB4.out HB4.out.size hb5⟩
  obtain ⟨W5, hW5⟩ : ∃ W5, W5 = w4.alloc (.cells (gC g) 26) := ⟨_, rfl⟩
  obtain ⟨g8, hg8⟩ : ∃ g8, g8 = w4.heap.size := ⟨_, rfl⟩
  rw [← hW5] at hE ⊢
  rw [← hg8] at hE ⊢
  have HE := Aside0.mk hE
  clear hb5 hs5 hE hW5 hg8 HST2 HB2 HST3 HB3 HST4 HB4 HG4
  have hof : g.of.length = d.subs.length := by rw [HC.out.of, ofM_length]
  have hon : g.on.length = d.objs.length := by rw [HC.out.on, ofM_length]
  have HOF := Aside0.mk hof
  have HON := Aside0.mk hon
  have e1 := HE.out.box.cell 1
  have e3 := HE.out.box.cell 3
  simp only [Pol.cells, List.getElem?_toArray, List.getElem?_cons_zero, List.getElem?_cons_succ] at e1 e3
  have f3 := HE.out.gr.cell 3
  have f4 := HE.out.gr.cell 4
  simp only [gC, List.getElem?_toArray, List.getElem?_cons_zero, List.getElem?_cons_succ, hof, hon] at f3 f4
  clear hof hon
  obtain ⟨n1, hn1⟩ : ∃ n1, n1 = d.subs.length := ⟨_, rfl⟩
  obtain ⟨n2, hn2⟩ : ∃ n2, n2 = d.objs.length := ⟨_, rfl⟩
  rw [← hn1] at e1 f3
  rw [← hn2] at e3 f4
  have N1 := Aside0.mk hn1
  have N2 := Aside0.mk hn2
  clear hn1 hn2
  have HR3 : Aside0 (∀ w6, Below W5.heap.size W5 w6 → Calls Try.prog 27 #[.slice g.A3 n1 g.c3] w6 fun e w' => e = .returned (.bool true) ∧ Below w6.heap.size w6 w') := ⟨fun w6 hb => rising_go g.A3 g.c3 d.subs.length d.objs.length (matD d) w6 g.of n1 HC.out.of HFF.out.2.1 (HOF.out.trans N1.out.symm) (HE.out.g.below hb).h3 HE.out.g.l3⟩
  have HR4 : Aside0 (∀ w6, Below W5.heap.size W5 w6 → Calls Try.prog 27 #[.slice g.A4 n2 g.c4] w6 fun e w' => e = .returned (.bool true) ∧ Below w6.heap.size w6 w') := ⟨fun w6 hb => rising_go g.A4 g.c4 d.objs.length d.subs.length (fun j i => matD d i j) w6 g.on n2 HC.out.on HFF.out.2.2 (HON.out.trans N2.out.symm) (HE.out.g.below hb).h4 HE.out.g.l4⟩
  go_upto_region 7 with (first | (go_at_call 27; ((with_reducible refine (HR3.out _ (Below.refl _ _)).mono ?_)); rintro e w6 ⟨rfl, hb⟩; have HE6 := Aside0.mk (HE.out.move hb); have HB6 := Aside0.mk hb; have f4' := pw_cell_below hb f4; clear hb f3 f4) | (go_at_call 27; ((with_reducible refine (HR4.out _ HB6.out).mono ?_)); rintro e w7 ⟨rfl, hb⟩; have HE7 := Aside0.mk (HE6.out.move hb); clear hb))
  by_cases na : a < 0
  · go_wp2
    go_ret
    exact ⟨rfl, HE7.out.below⟩
  by_cases nb : b < 0
  · go_wp2
    go_ret
    exact ⟨rfl, HE7.out.below⟩
  obtain ⟨i, rfl⟩ : ∃ i : Nat, a = i := ⟨a.toNat, by omega⟩
  obtain ⟨k, rfl⟩ : ∃ k : Nat, b = k := ⟨b.toNat, by omega⟩
  clear e1 e3
  have e1 := HE7.out.box.cell 1
  have e3 := HE7.out.box.cell 3
  simp only [Pol.cells, List.getElem?_toArray, List.getElem?_cons_zero, List.getElem?_cons_succ, ← N1.out, ← N2.out] at e1 e3
  by_cases hi : (i : Int) < n1
  · by_cases hk : (k : Int) < n1
    · have hi' : i < d.subs.length := by have := N1.out; omega
      have hk' : k < d.subs.length := by have := N1.out; omega
      have hpin := HP.out.below HE7.out.below
      obtain ⟨ad1, q1, hx0, _⟩ := at_T54 hpin.h1 (i : Int) (by omega) (by simp only []; omega)
      obtain ⟨ad1', q1', hx1, _⟩ := at_T54 hpin.h1 (k : Int) (by omega) (by simp only []; omega)
      have q1 : A1 = some ad1 := q1
      have q1' : A1 = some ad1' := q1'
      obtain rfl : ad1 = ad1' := Option.some.inj (q1.symm.trans q1')
      subst q1
      have hget1 : rd_T54 d.subs (i : Int) = d.subs[i] := by simp [rd_T54, hi']
      have hget2 : rd_T54 d.subs (k : Int) = d.subs[k] := by simp [rd_T54, hk']
      simp only [hget1, Int.toNat_natCast] at hx0
      simp only [hget2, Int.toNat_natCast] at hx1
      have KI := Aside0.mk (HD.out.subs d.subs[i] (List.getElem_mem hi'))
      have KK := Aside0.mk (HD.out.subs d.subs[k] (List.getElem_mem hk'))
      obtain ⟨x, hx⟩ : ∃ x, g.of[i]? = some x := ⟨_, List.getElem?_eq_getElem (by have := HOF.out; omega)⟩
      obtain ⟨y, hy⟩ : ∃ y, g.of[k]? = some y := ⟨_, List.getElem?_eq_getElem (by have := HOF.out; omega)⟩
      have hiff := rows_iff d HFF.out.2.2 hi' hk' (x := x) (y := y) (by rw [← HC.out.of]; exact hx) (by rw [← HC.out.of]; exact hy)
      obtain ⟨q, hq⟩ : ∃ q : Bool, q = true ↔ ∀ o ∈ d.objs, maskD d d.subs[i].f0 o = maskD d d.subs[k].f0 o := ⟨@decide (∀ o ∈ d.objs, maskD d d.subs[i].f0 o = maskD d d.subs[k].f0 o) (Classical.propDecidable _), @decide_eq_true_iff _ (Classical.propDecidable _)⟩
      have HX : Aside0 (Holds ((!(q == (x == y))) = false)) := ⟨⟨by
        rw [← hiff] at hq
        by_cases hxy : x = y
        · rw [hq.2 hxy, hxy]; simp
        · have : q = false := by cases q with
            | false => rfl
            | true => exact absurd (hq.1 rfl) hxy
          rw [this]; simp [hxy]⟩⟩
      have HGX := Aside0.mk (rd_get hx)
      have HGY := Aside0.mk (rd_get hy)
      obtain ⟨sI, hsI⟩ : ∃ sI, sI = d.subs[i].f0 := ⟨_, rfl⟩
      obtain ⟨sK, hsK⟩ : ∃ sK, sK = d.subs[k].f0 := ⟨_, rfl⟩
      rw [← hsI] at hx0 KI hq
      rw [← hsK] at hx1 KK hq
      have HQ : Aside0 (Holds (q = true ↔ ∀ o ∈ d.objs, maskD d sI o = maskD d sK o)) := ⟨⟨hq⟩⟩
      clear hpin hget1 hget2 hx hy hiff hq hsI hsK q1' hi' hk'
      go_upto_region 10 with fail
      refine start_ (n := 15) (S := fun w' => GE (Pol.mk d A0 c0 (some ad1) c1 A2 c2 A3 c3 A4 c4 A5 c5 A6 c6 A7 c7 A8 c8 A9 c9 A10 c10) g w w' g8 ∧ w'.cell? ⟨w.heap.size, 1, none⟩ = some (.slice (some ad1) n1 c1) ∧ w'.cell? (ad1.add (i * 2)) = some (.string sI) ∧ w'.cell? (ad1.add (k * 2)) = some (.string sK)) (ds := []) #[false, false, false, false, false, false, false, false, false, false, false, false, false, false, false] (by kernel_rfl) rfl rfl ⟨HE7.out.move (below_drew (Below.refl _ _)), pw_cell_below (below_drew (Below.refl _ _)) e1, pw_cell_below (below_drew (Below.refl _ _)) hx0, pw_cell_below (below_drew (Below.refl _ _)) hx1⟩ (fun hHeld => ?_)
      clear hx0 hx1
      obtain ⟨W8, hW8⟩ : ∃ W8, W8 = World.drew w7 := ⟨_, rfl⟩
      rw [← hW8] at hHeld ⊢
      clear hW8 HE7
      refine take_ (i := 0) (N := some 68) (v := .agg #[.slice A0 d.acts.length c0, .slice (some ad1) d.subs.length c1, .slice A2 d.roles.length c2, .slice A3 d.objs.length c3, .slice A4 d.grps.length c4, .slice A5 d.mem.length c5, .slice A6 d.inh.length c6, .slice A7 d.par.length c7, .slice A8 d.wit.length c8, .slice A9 d.rules.length c9, .slice A10 d.exc.length c10]) (a' := ?_) #[true, false, false, false, false, false, false, false, false, false, false, false, false, false, false] rfl rfl (by kernel_rfl) (fun _ _ _ h => h) (yieldsIf_load_mid (by rfl) 39 (.tmp 3) rfl w.heap.size 0 rfl (#[.slice A0 d.acts.length c0, .slice (some ad1) d.subs.length c1, .slice A2 d.roles.length c2, .slice A3 d.objs.length c3, .slice A4 d.grps.length c4, .slice A5 d.mem.length c5, .slice A6 d.inh.length c6, .slice A7 d.par.length c7, .slice A8 d.wit.length c8, .slice A9 d.rules.length c9, .slice A10 d.exc.length c10]).toList _ (fun w' hs => Stays.range (hs.1.box) _ rfl) Try.underlying39 rfl (by first | exact i39 | (simp; exact i39))) hHeld ?_ ?_
      rotate_left
      · simp only [Act.put, List.setIfInBounds_toArray, List.set_cons_zero, List.set_cons_succ]
        rfl
      refine pure_ (i := 1) (N := some 69) (v := ?_) (a' := ?_) #[true, true, false, false, false, false, false, false, false, false, false, false, false, false, false] rfl rfl (by kernel_rfl) (fun _ _ _ h => h) (Or.inl ⟨by rfl, ?_⟩) ?_ ?_
      rotate_left
      · intro w'
        go_simp
        with_reducible rfl
      rotate_left
      · simp only [Act.put, List.setIfInBounds_toArray, List.set_cons_zero, List.set_cons_succ]
        rfl
      refine take_ (i := 2) (N := some 70) (v := ?_) (a' := ?_) #[true, true, true, false, false, false, false, false, false, false, false, false, false, false, false] rfl rfl (by kernel_rfl) (fun _ _ _ h => h) (Or.inl ⟨by rfl, ?_⟩) hHeld ?_ ?_
      rotate_left
      · rintro w' ⟨s0, s1, s2, s3⟩
        go_simp
        with_reducible rfl
      rotate_left
      · simp only [Act.put, List.setIfInBounds_toArray, List.set_cons_zero, List.set_cons_succ]
        rfl
      refine pure_ (i := 3) (N := some 71) (v := ?_) (a' := ?_) #[true, true, true, true, false, false, false, false, false, false, false, false, false, false, false] rfl rfl (by kernel_rfl) (fun _ _ _ h => h) (Or.inl ⟨by rfl, ?_⟩) ?_ ?_
      rotate_left
      · intro w'
        go_simp
        with_reducible rfl
      rotate_left
      · simp only [Act.put, List.setIfInBounds_toArray, List.set_cons_zero, List.set_cons_succ]
        rfl
      refine pure_ (i := 4) (N := some 72) (v := ?_) (a' := ?_) #[true, true, true, true, true, false, false, false, false, false, false, false, false, false, false] rfl rfl (by kernel_rfl) (fun _ _ _ h => h) (Or.inl ⟨by rfl, ?_⟩) ?_ ?_
      rotate_left
      · intro w'
        go_simp
        with_reducible rfl
      rotate_left
      · simp only [Act.put, List.setIfInBounds_toArray, List.set_cons_zero, List.set_cons_succ]
        rfl
      refine pure_ (i := 5) (N := some 73) (v := ?_) (a' := ?_) #[true, true, true, true, true, true, false, false, false, false, false, false, false, false, false] rfl rfl (by kernel_rfl) (fun _ _ _ h => h) (Or.inl ⟨by rfl, ?_⟩) ?_ ?_
      rotate_left
      · intro w'
        go_simp
        with_reducible rfl
      rotate_left
      · simp only [Act.put, List.setIfInBounds_toArray, List.set_cons_zero, List.set_cons_succ]
        rfl
      refine take_ (i := 6) (N := some 74) (v := ?_) (a' := ?_) #[true, true, true, true, true, true, true, false, false, false, false, false, false, false, false] rfl rfl (by kernel_rfl) (fun _ _ _ h => h) (Or.inl ⟨by rfl, ?_⟩) hHeld ?_ ?_
      rotate_left
      · rintro w' ⟨s0, s1, s2, s3⟩
        go_simp
        with_reducible rfl
      rotate_left
      · simp only [Act.put, List.setIfInBounds_toArray, List.set_cons_zero, List.set_cons_succ]
        rfl
      refine pure_ (i := 7) (N := some 75) (v := ?_) (a' := ?_) #[true, true, true, true, true, true, true, true, false, false, false, false, false, false, false] rfl rfl (by kernel_rfl) (fun _ _ _ h => h) (Or.inl ⟨by rfl, ?_⟩) ?_ ?_
      rotate_left
      · intro w'
        go_simp
        with_reducible rfl
      rotate_left
      · simp only [Act.put, List.setIfInBounds_toArray, List.set_cons_zero, List.set_cons_succ]
        rfl
      refine take_ (i := 8) (N := some 76) (v := ?_) (a' := ?_) #[true, true, true, true, true, true, true, true, true, false, false, false, false, false, false] rfl rfl (by kernel_rfl) (fun _ _ _ h => h) (Or.inl ⟨by rfl, ?_⟩) hHeld ?_ ?_
      rotate_left
      · rintro w' ⟨s0, s1, s2, s3⟩
        go_simp
        with_reducible rfl
      rotate_left
      · simp only [Act.put, List.setIfInBounds_toArray, List.set_cons_zero, List.set_cons_succ]
        rfl
      refine pure_ (i := 9) (N := some 77) (v := ?_) (a' := ?_) #[true, true, true, true, true, true, true, true, true, true, false, false, false, false, false] rfl rfl (by kernel_rfl) (fun _ _ _ h => h) (Or.inl ⟨by rfl, ?_⟩) ?_ ?_
      rotate_left
      · intro w'
        go_simp
        with_reducible rfl
      rotate_left
      · simp only [Act.put, List.setIfInBounds_toArray, List.set_cons_zero, List.set_cons_succ]
        rfl
      refine pure_ (i := 10) (N := some 78) (v := ?_) (a' := ?_) #[true, true, true, true, true, true, true, true, true, true, true, false, false, false, false] rfl rfl (by kernel_rfl) (fun _ _ _ h => h) (Or.inl ⟨by rfl, ?_⟩) ?_ ?_
      rotate_left
      · intro w'
        go_simp
        with_reducible rfl
      rotate_left
      · simp only [Act.put, List.setIfInBounds_toArray, List.set_cons_zero, List.set_cons_succ]
        rfl
      refine pure_ (i := 11) (N := some 79) (v := ?_) (a' := ?_) #[true, true, true, true, true, true, true, true, true, true, true, true, false, false, false] rfl rfl (by kernel_rfl) (fun _ _ _ h => h) (Or.inl ⟨by rfl, ?_⟩) ?_ ?_
      rotate_left
      · intro w'
        go_simp
        with_reducible rfl
      rotate_left
      · simp only [Act.put, List.setIfInBounds_toArray, List.set_cons_zero, List.set_cons_succ]
        rfl
      refine take_ (i := 12) (N := some 80) (v := ?_) (a' := ?_) #[true, true, true, true, true, true, true, true, true, true, true, true, true, false, false] rfl rfl (by kernel_rfl) (fun _ _ _ h => h) (Or.inl ⟨by rfl, ?_⟩) hHeld ?_ ?_
      rotate_left
      · rintro w' ⟨s0, s1, s2, s3⟩
        go_simp
        with_reducible rfl
      rotate_left
      · simp only [Act.put, List.setIfInBounds_toArray, List.set_cons_zero, List.set_cons_succ]
        rfl
      refine one_ (i := 13) (N := some 81) #[true, true, true, true, true, true, true, true, true, true, true, true, true, true, false] rfl rfl (by kernel_rfl) (by decide) (fun K hK => ?_)
      refine goes_ Try.func28 (by kernel_rfl) rfl #[.agg #[.slice A0 d.acts.length c0, .slice (some ad1) d.subs.length c1, .slice A2 d.roles.length c2, .slice A3 d.objs.length c3, .slice A4 d.grps.length c4, .slice A5 d.mem.length c5, .slice A6 d.inh.length c6, .slice A7 d.par.length c7, .slice A8 d.wit.length c8, .slice A9 d.rules.length c9, .slice A10 d.exc.length c10], .string sI, .string sK] (by rfl) rfl rfl (by (try simp only [List.map_toArray, List.map_cons, List.map_nil]); first | done | rfl) ?_
      refine (rows_calls (Pol.mk d A0 c0 (some ad1) c1 A2 c2 A3 c3 A4 c4 A5 c5 A6 c6 A7 c7 A8 c8 A9 c9 A10 c10) sI sK _ (HP.out.below hHeld.1.below) HD.out KI.out KK.out HFF.out.1 q HQ.out.out).mono ?_
      rintro e w9 ⟨rfl, hb⟩
      refine ⟨_, rfl, ?_⟩
      have hH := And.intro (hHeld.1.move hb) (And.intro (pw_cell_below hb hHeld.2.1) (And.intro (pw_cell_below hb hHeld.2.2.1) (pw_cell_below hb hHeld.2.2.2)))
      clear hb hHeld
      refine hK.out _ _ hH (fun hHeld => ?_)
      clear hK K hH
      refine norm_ (a' := ?_) ?_ ?_
      rotate_left
      · show Act.put _ (some 81) _ = _
        simp only [Act.put, List.setIfInBounds_toArray, List.set_cons_zero, List.set_cons_succ]
        rfl
      refine pure_ (i := 14) (N := some 9) (v := ?_) (a' := ?_) #[true, true, true, true, true, true, true, true, true, true, true, true, true, true, true] rfl rfl (by kernel_rfl) (fun _ _ _ h => h) (Or.inl ⟨by rfl, ?_⟩) ?_ ?_
      rotate_left
      · intro w'
        go_simp
        with_reducible rfl
      rotate_left
      · simp only [Act.put, List.setIfInBounds_toArray, List.set_cons_zero, List.set_cons_succ]
        rfl
      refine done_ (by kernel_rfl) ?_
      have HE9 := Aside0.mk hHeld.1
      clear hHeld HQ KI KK
      go_upto_region 11 with fail
      have hh3 := HE9.out.g.h3
      obtain ⟨adg, q2, hy0⟩ := Kd.at_int hh3 (i : Int) (by omega) (by have := HOF.out; have := N1.out; omega)
      obtain ⟨adg', q2', hy1⟩ := Kd.at_int hh3 (k : Int) (by omega) (by have := HOF.out; have := N1.out; omega)
      obtain rfl : adg = adg' := Option.some.inj (q2.symm.trans q2')
      rw [HGX.out, Int.toNat_natCast] at hy0
      rw [HGY.out, Int.toNat_natCast] at hy1
      have f3 := HE9.out.gr.cell 3
      simp only [gC, List.getElem?_toArray, List.getElem?_cons_zero, List.getElem?_cons_succ, HOF.out, ← N1.out, q2] at f3
      clear hh3 q2'
      refine start_ (n := 13) (S := fun w' => GE (Pol.mk d A0 c0 (some ad1) c1 A2 c2 A3 c3 A4 c4 A5 c5 A6 c6 A7 c7 A8 c8 A9 c9 A10 c10) g w w' g8 ∧ w'.cell? ⟨g8, 3, none⟩ = some (.slice (some adg) n1 g.c3) ∧ w'.cell? (adg.add i) = some (.int .i64 x) ∧ w'.cell? (adg.add k) = some (.int .i64 y)) (ds := []) #[false, false, false, false, false, false, false, false, false, false, false, false, false] (by kernel_rfl) rfl rfl ⟨HE9.out.move (below_drew (Below.refl _ _)), pw_cell_below (below_drew (Below.refl _ _)) f3, pw_cell_below (below_drew (Below.refl _ _)) hy0, pw_cell_below (below_drew (Below.refl _ _)) hy1⟩ (fun hHeld => ?_)
      obtain ⟨W9, hW9⟩ : ∃ W9, W9 = World.drew w9 := ⟨_, rfl⟩
      rw [← hW9] at hHeld ⊢
      clear hW9 HE9
      refine pure_ (i := 0) (N := some 82) (v := ?_) (a' := ?_) #[true, false, false, false, false, false, false, false, false, false, false, false, false] rfl rfl (by kernel_rfl) (fun _ _ _ h => h) (Or.inl ⟨by rfl, ?_⟩) ?_ ?_
      rotate_left
      · intro w'
        go_simp
        with_reducible rfl
      rotate_left
      · simp only [Act.put, List.setIfInBounds_toArray, List.set_cons_zero, List.set_cons_succ]
        rfl
      refine pure_ (i := 1) (N := some 83) (v := ?_) (a' := ?_) #[true, true, false, false, false, false, false, false, false, false, false, false, false] rfl rfl (by kernel_rfl) (fun _ _ _ h => h) (Or.inl ⟨by rfl, ?_⟩) ?_ ?_
      rotate_left
      · intro w'
        go_simp
        with_reducible rfl
      rotate_left
      · simp only [Act.put, List.setIfInBounds_toArray, List.set_cons_zero, List.set_cons_succ]
        rfl
      refine take_ (i := 2) (N := some 84) (v := ?_) (a' := ?_) #[true, true, true, false, false, false, false, false, false, false, false, false, false] rfl rfl (by kernel_rfl) (fun _ _ _ h => h) (Or.inl ⟨by rfl, ?_⟩) hHeld ?_ ?_
      rotate_left
      · rintro w' ⟨s0, s1, s2, s3⟩
        go_simp
        with_reducible rfl
      rotate_left
      · simp only [Act.put, List.setIfInBounds_toArray, List.set_cons_zero, List.set_cons_succ]
        rfl
      refine pure_ (i := 3) (N := some 85) (v := ?_) (a' := ?_) #[true, true, true, true, false, false, false, false, false, false, false, false, false] rfl rfl (by kernel_rfl) (fun _ _ _ h => h) (Or.inl ⟨by rfl, ?_⟩) ?_ ?_
      rotate_left
      · intro w'
        go_simp
        with_reducible rfl
      rotate_left
      · simp only [Act.put, List.setIfInBounds_toArray, List.set_cons_zero, List.set_cons_succ]
        rfl
      refine pure_ (i := 4) (N := some 86) (v := ?_) (a' := ?_) #[true, true, true, true, true, false, false, false, false, false, false, false, false] rfl rfl (by kernel_rfl) (fun _ _ _ h => h) (Or.inl ⟨by rfl, ?_⟩) ?_ ?_
      rotate_left
      · intro w'
        go_simp
        with_reducible rfl
      rotate_left
      · simp only [Act.put, List.setIfInBounds_toArray, List.set_cons_zero, List.set_cons_succ]
        rfl
      refine take_ (i := 5) (N := some 87) (v := ?_) (a' := ?_) #[true, true, true, true, true, true, false, false, false, false, false, false, false] rfl rfl (by kernel_rfl) (fun _ _ _ h => h) (Or.inl ⟨by rfl, ?_⟩) hHeld ?_ ?_
      rotate_left
      · rintro w' ⟨s0, s1, s2, s3⟩
        go_simp
        with_reducible rfl
      rotate_left
      · simp only [Act.put, List.setIfInBounds_toArray, List.set_cons_zero, List.set_cons_succ]
        rfl
      refine pure_ (i := 6) (N := some 88) (v := ?_) (a' := ?_) #[true, true, true, true, true, true, true, false, false, false, false, false, false] rfl rfl (by kernel_rfl) (fun _ _ _ h => h) (Or.inl ⟨by rfl, ?_⟩) ?_ ?_
      rotate_left
      · intro w'
        go_simp
        with_reducible rfl
      rotate_left
      · simp only [Act.put, List.setIfInBounds_toArray, List.set_cons_zero, List.set_cons_succ]
        rfl
      refine take_ (i := 7) (N := some 89) (v := ?_) (a' := ?_) #[true, true, true, true, true, true, true, true, false, false, false, false, false] rfl rfl (by kernel_rfl) (fun _ _ _ h => h) (Or.inl ⟨by rfl, ?_⟩) hHeld ?_ ?_
      rotate_left
      · rintro w' ⟨s0, s1, s2, s3⟩
        go_simp
        with_reducible rfl
      rotate_left
      · simp only [Act.put, List.setIfInBounds_toArray, List.set_cons_zero, List.set_cons_succ]
        rfl
      refine pure_ (i := 8) (N := some 90) (v := ?_) (a' := ?_) #[true, true, true, true, true, true, true, true, true, false, false, false, false] rfl rfl (by kernel_rfl) (fun _ _ _ h => h) (Or.inl ⟨by rfl, ?_⟩) ?_ ?_
      rotate_left
      · intro w'
        go_simp
        with_reducible rfl
      rotate_left
      · simp only [Act.put, List.setIfInBounds_toArray, List.set_cons_zero, List.set_cons_succ]
        rfl
      refine pure_ (i := 9) (N := some 91) (v := ?_) (a' := ?_) #[true, true, true, true, true, true, true, true, true, true, false, false, false] rfl rfl (by kernel_rfl) (fun _ _ _ h => h) (Or.inl ⟨by rfl, ?_⟩) ?_ ?_
      rotate_left
      · intro w'
        go_simp
        with_reducible rfl
      rotate_left
      · simp only [Act.put, List.setIfInBounds_toArray, List.set_cons_zero, List.set_cons_succ]
        rfl
      refine take_ (i := 10) (N := some 92) (v := ?_) (a' := ?_) #[true, true, true, true, true, true, true, true, true, true, true, false, false] rfl rfl (by kernel_rfl) (fun _ _ _ h => h) (Or.inl ⟨by rfl, ?_⟩) hHeld ?_ ?_
      rotate_left
      · rintro w' ⟨s0, s1, s2, s3⟩
        go_simp
        with_reducible rfl
      rotate_left
      · simp only [Act.put, List.setIfInBounds_toArray, List.set_cons_zero, List.set_cons_succ]
        rfl
      refine pure_ (i := 11) (N := some 93) (v := ?_) (a' := ?_) #[true, true, true, true, true, true, true, true, true, true, true, true, false] rfl rfl (by kernel_rfl) (fun _ _ _ h => h) (Or.inl ⟨by rfl, ?_⟩) ?_ ?_
      rotate_left
      · intro w'
        go_simp
        with_reducible rfl
      rotate_left
      · simp only [Act.put, List.setIfInBounds_toArray, List.set_cons_zero, List.set_cons_succ]
        rfl
      refine pure_ (i := 12) (N := some 94) (v := ?_) (a' := ?_) #[true, true, true, true, true, true, true, true, true, true, true, true, true] rfl rfl (by kernel_rfl) (fun _ _ _ h => h) (Or.inl ⟨by rfl, ?_⟩) ?_ ?_
      rotate_left
      · intro w'
        go_simp
        with_reducible rfl
      rotate_left
      · simp only [Act.put, List.setIfInBounds_toArray, List.set_cons_zero, List.set_cons_succ]
        rfl
      refine done_ (by kernel_rfl) ?_
      have HE10 := Aside0.mk hHeld.1
      clear hHeld
      rw [HX.out.out]
      go_upto_region 13 with fail
      clear e1 e3 f3 hy0 hy1 q2
      have e1 := HE10.out.box.cell 1
      have e3 := HE10.out.box.cell 3
      simp only [Pol.cells, List.getElem?_toArray, List.getElem?_cons_zero, List.getElem?_cons_succ, ← N1.out, ← N2.out] at e1 e3
      by_cases ji : (i : Int) < n2
      · by_cases jk : (k : Int) < n2
        · have hi' : i < d.objs.length := by have := N2.out; omega
          have hk' : k < d.objs.length := by have := N2.out; omega
          have hpin := HP.out.below HE10.out.below
          obtain ⟨ad3, q1, hx0⟩ := Kd.at_string hpin.h3 (i : Int) (by omega) (by simp only []; omega)
          obtain ⟨ad3', q1', hx1⟩ := Kd.at_string hpin.h3 (k : Int) (by omega) (by simp only []; omega)
          have q1 : A3 = some ad3 := q1
          have q1' : A3 = some ad3' := q1'
          obtain rfl : ad3 = ad3' := Option.some.inj (q1.symm.trans q1')
          subst q1
          have hget1 : rdOf ByteArray.empty d.objs (i : Int) = d.objs[i] := by simp [rdOf, hi']
          have hget2 : rdOf ByteArray.empty d.objs (k : Int) = d.objs[k] := by simp [rdOf, hk']
          simp only [hget1, Int.toNat_natCast] at hx0
          simp only [hget2, Int.toNat_natCast] at hx1
          have KI := Aside0.mk (HD.out.objs d.objs[i] (List.getElem_mem hi'))
          have KK := Aside0.mk (HD.out.objs d.objs[k] (List.getElem_mem hk'))
          obtain ⟨x, hx⟩ : ∃ x, g.on[i]? = some x := ⟨_, List.getElem?_eq_getElem (by have := HON.out; omega)⟩
          obtain ⟨y, hy⟩ : ∃ y, g.on[k]? = some y := ⟨_, List.getElem?_eq_getElem (by have := HON.out; omega)⟩
          have hiff := cols_iff d HFF.out.2.1 hi' hk' (x := x) (y := y) (by rw [← HC.out.on]; exact hx) (by rw [← HC.out.on]; exact hy)
          obtain ⟨q, hq⟩ : ∃ q : Bool, q = true ↔ ∀ s ∈ d.subs, maskD d s.f0 d.objs[i] = maskD d s.f0 d.objs[k] := ⟨@decide (∀ s ∈ d.subs, maskD d s.f0 d.objs[i] = maskD d s.f0 d.objs[k]) (Classical.propDecidable _), @decide_eq_true_iff _ (Classical.propDecidable _)⟩
          have HX : Aside0 (Holds ((!(q == (x == y))) = false)) := ⟨⟨by
            rw [← hiff] at hq
            by_cases hxy : x = y
            · rw [hq.2 hxy, hxy]; simp
            · have : q = false := by cases q with
                | false => rfl
                | true => exact absurd (hq.1 rfl) hxy
              rw [this]; simp [hxy]⟩⟩
          have HGX := Aside0.mk (rd_get hx)
          have HGY := Aside0.mk (rd_get hy)
          obtain ⟨oI, hoI⟩ : ∃ oI, oI = d.objs[i] := ⟨_, rfl⟩
          obtain ⟨oK, hoK⟩ : ∃ oK, oK = d.objs[k] := ⟨_, rfl⟩
          rw [← hoI] at hx0 KI hq
          rw [← hoK] at hx1 KK hq
          have HQ : Aside0 (Holds (q = true ↔ ∀ s ∈ d.subs, maskD d s.f0 oI = maskD d s.f0 oK)) := ⟨⟨hq⟩⟩
          clear hpin hget1 hget2 hx hy hiff hq hoI hoK q1' hi' hk'
          go_upto_region 14 with fail
          refine start_ (n := 13) (S := fun w' => GE (Pol.mk d A0 c0 (some ad1) c1 A2 c2 (some ad3) c3 A4 c4 A5 c5 A6 c6 A7 c7 A8 c8 A9 c9 A10 c10) g w w' g8 ∧ w'.cell? ⟨w.heap.size, 3, none⟩ = some (.slice (some ad3) n2 c3) ∧ w'.cell? (ad3.add i) = some (.string oI) ∧ w'.cell? (ad3.add k) = some (.string oK)) (ds := []) #[false, false, false, false, false, false, false, false, false, false, false, false, false] (by kernel_rfl) rfl rfl ⟨HE10.out.move (below_drew (Below.refl _ _)), pw_cell_below (below_drew (Below.refl _ _)) e3, pw_cell_below (below_drew (Below.refl _ _)) hx0, pw_cell_below (below_drew (Below.refl _ _)) hx1⟩ (fun hHeld => ?_)
          clear e1 e3 hx0 hx1
          obtain ⟨W8, hW8⟩ : ∃ W8, W8 = World.drew W9 := ⟨_, rfl⟩
          rw [← hW8] at hHeld ⊢
          clear hW8 HE10
          refine take_ (i := 0) (N := some 107) (v := .agg #[.slice A0 d.acts.length c0, .slice (some ad1) d.subs.length c1, .slice A2 d.roles.length c2, .slice (some ad3) d.objs.length c3, .slice A4 d.grps.length c4, .slice A5 d.mem.length c5, .slice A6 d.inh.length c6, .slice A7 d.par.length c7, .slice A8 d.wit.length c8, .slice A9 d.rules.length c9, .slice A10 d.exc.length c10]) (a' := ?_) #[true, false, false, false, false, false, false, false, false, false, false, false, false] rfl rfl (by kernel_rfl) (fun _ _ _ h => h) (yieldsIf_load_mid (by rfl) 39 (.tmp 3) rfl w.heap.size 0 rfl (#[.slice A0 d.acts.length c0, .slice (some ad1) d.subs.length c1, .slice A2 d.roles.length c2, .slice (some ad3) d.objs.length c3, .slice A4 d.grps.length c4, .slice A5 d.mem.length c5, .slice A6 d.inh.length c6, .slice A7 d.par.length c7, .slice A8 d.wit.length c8, .slice A9 d.rules.length c9, .slice A10 d.exc.length c10]).toList _ (fun w' hs => Stays.range (hs.1.box) _ rfl) Try.underlying39 rfl (by first | exact i39 | (simp; exact i39))) hHeld ?_ ?_
          rotate_left
          · simp only [Act.put, List.setIfInBounds_toArray, List.set_cons_zero, List.set_cons_succ]
            rfl
          refine pure_ (i := 1) (N := some 108) (v := ?_) (a' := ?_) #[true, true, false, false, false, false, false, false, false, false, false, false, false] rfl rfl (by kernel_rfl) (fun _ _ _ h => h) (Or.inl ⟨by rfl, ?_⟩) ?_ ?_
          rotate_left
          · intro w'
            go_simp
            with_reducible rfl
          rotate_left
          · simp only [Act.put, List.setIfInBounds_toArray, List.set_cons_zero, List.set_cons_succ]
            rfl
          refine take_ (i := 2) (N := some 109) (v := ?_) (a' := ?_) #[true, true, true, false, false, false, false, false, false, false, false, false, false] rfl rfl (by kernel_rfl) (fun _ _ _ h => h) (Or.inl ⟨by rfl, ?_⟩) hHeld ?_ ?_
          rotate_left
          · rintro w' ⟨s0, s1, s2, s3⟩
            go_simp
            with_reducible rfl
          rotate_left
          · simp only [Act.put, List.setIfInBounds_toArray, List.set_cons_zero, List.set_cons_succ]
            rfl
          refine pure_ (i := 3) (N := some 110) (v := ?_) (a' := ?_) #[true, true, true, true, false, false, false, false, false, false, false, false, false] rfl rfl (by kernel_rfl) (fun _ _ _ h => h) (Or.inl ⟨by rfl, ?_⟩) ?_ ?_
          rotate_left
          · intro w'
            go_simp
            with_reducible rfl
          rotate_left
          · simp only [Act.put, List.setIfInBounds_toArray, List.set_cons_zero, List.set_cons_succ]
            rfl
          refine pure_ (i := 4) (N := some 111) (v := ?_) (a' := ?_) #[true, true, true, true, true, false, false, false, false, false, false, false, false] rfl rfl (by kernel_rfl) (fun _ _ _ h => h) (Or.inl ⟨by rfl, ?_⟩) ?_ ?_
          rotate_left
          · intro w'
            go_simp
            with_reducible rfl
          rotate_left
          · simp only [Act.put, List.setIfInBounds_toArray, List.set_cons_zero, List.set_cons_succ]
            rfl
          refine take_ (i := 5) (N := some 112) (v := ?_) (a' := ?_) #[true, true, true, true, true, true, false, false, false, false, false, false, false] rfl rfl (by kernel_rfl) (fun _ _ _ h => h) (Or.inl ⟨by rfl, ?_⟩) hHeld ?_ ?_
          rotate_left
          · rintro w' ⟨s0, s1, s2, s3⟩
            go_simp
            with_reducible rfl
          rotate_left
          · simp only [Act.put, List.setIfInBounds_toArray, List.set_cons_zero, List.set_cons_succ]
            rfl
          refine pure_ (i := 6) (N := some 113) (v := ?_) (a' := ?_) #[true, true, true, true, true, true, true, false, false, false, false, false, false] rfl rfl (by kernel_rfl) (fun _ _ _ h => h) (Or.inl ⟨by rfl, ?_⟩) ?_ ?_
          rotate_left
          · intro w'
            go_simp
            with_reducible rfl
          rotate_left
          · simp only [Act.put, List.setIfInBounds_toArray, List.set_cons_zero, List.set_cons_succ]
            rfl
          refine take_ (i := 7) (N := some 114) (v := ?_) (a' := ?_) #[true, true, true, true, true, true, true, true, false, false, false, false, false] rfl rfl (by kernel_rfl) (fun _ _ _ h => h) (Or.inl ⟨by rfl, ?_⟩) hHeld ?_ ?_
          rotate_left
          · rintro w' ⟨s0, s1, s2, s3⟩
            go_simp
            with_reducible rfl
          rotate_left
          · simp only [Act.put, List.setIfInBounds_toArray, List.set_cons_zero, List.set_cons_succ]
            rfl
          refine pure_ (i := 8) (N := some 115) (v := ?_) (a' := ?_) #[true, true, true, true, true, true, true, true, true, false, false, false, false] rfl rfl (by kernel_rfl) (fun _ _ _ h => h) (Or.inl ⟨by rfl, ?_⟩) ?_ ?_
          rotate_left
          · intro w'
            go_simp
            with_reducible rfl
          rotate_left
          · simp only [Act.put, List.setIfInBounds_toArray, List.set_cons_zero, List.set_cons_succ]
            rfl
          refine pure_ (i := 9) (N := some 116) (v := ?_) (a' := ?_) #[true, true, true, true, true, true, true, true, true, true, false, false, false] rfl rfl (by kernel_rfl) (fun _ _ _ h => h) (Or.inl ⟨by rfl, ?_⟩) ?_ ?_
          rotate_left
          · intro w'
            go_simp
            with_reducible rfl
          rotate_left
          · simp only [Act.put, List.setIfInBounds_toArray, List.set_cons_zero, List.set_cons_succ]
            rfl
          refine take_ (i := 10) (N := some 117) (v := ?_) (a' := ?_) #[true, true, true, true, true, true, true, true, true, true, true, false, false] rfl rfl (by kernel_rfl) (fun _ _ _ h => h) (Or.inl ⟨by rfl, ?_⟩) hHeld ?_ ?_
          rotate_left
          · rintro w' ⟨s0, s1, s2, s3⟩
            go_simp
            with_reducible rfl
          rotate_left
          · simp only [Act.put, List.setIfInBounds_toArray, List.set_cons_zero, List.set_cons_succ]
            rfl
          refine one_ (i := 11) (N := some 118) #[true, true, true, true, true, true, true, true, true, true, true, true, false] rfl rfl (by kernel_rfl) (by decide) (fun K hK => ?_)
          refine goes_ Try.func29 (by kernel_rfl) rfl #[.agg #[.slice A0 d.acts.length c0, .slice (some ad1) d.subs.length c1, .slice A2 d.roles.length c2, .slice (some ad3) d.objs.length c3, .slice A4 d.grps.length c4, .slice A5 d.mem.length c5, .slice A6 d.inh.length c6, .slice A7 d.par.length c7, .slice A8 d.wit.length c8, .slice A9 d.rules.length c9, .slice A10 d.exc.length c10], .string oI, .string oK] (by rfl) rfl rfl (by (try simp only [List.map_toArray, List.map_cons, List.map_nil]); first | done | rfl) ?_
          refine (columns_calls (Pol.mk d A0 c0 (some ad1) c1 A2 c2 (some ad3) c3 A4 c4 A5 c5 A6 c6 A7 c7 A8 c8 A9 c9 A10 c10) oI oK _ (HP.out.below hHeld.1.below) HD.out KI.out KK.out HFF.out.1 q HQ.out.out).mono ?_
          rintro e w11 ⟨rfl, hb⟩
          refine ⟨_, rfl, ?_⟩
          have hH := And.intro (hHeld.1.move hb) (And.intro (pw_cell_below hb hHeld.2.1) (And.intro (pw_cell_below hb hHeld.2.2.1) (pw_cell_below hb hHeld.2.2.2)))
          clear hb hHeld
          refine hK.out _ _ hH (fun hHeld => ?_)
          clear hK K hH
          refine norm_ (a' := ?_) ?_ ?_
          rotate_left
          · show Act.put _ (some 118) _ = _
            simp only [Act.put, List.setIfInBounds_toArray, List.set_cons_zero, List.set_cons_succ]
            rfl
          refine pure_ (i := 12) (N := some 10) (v := ?_) (a' := ?_) #[true, true, true, true, true, true, true, true, true, true, true, true, true] rfl rfl (by kernel_rfl) (fun _ _ _ h => h) (Or.inl ⟨by rfl, ?_⟩) ?_ ?_
          rotate_left
          · intro w'
            go_simp
            with_reducible rfl
          rotate_left
          · simp only [Act.put, List.setIfInBounds_toArray, List.set_cons_zero, List.set_cons_succ]
            rfl
          refine done_ (by kernel_rfl) ?_
          have HE11 := Aside0.mk hHeld.1
          clear hHeld HQ KI KK
          go_upto_region 15 with fail
          have hh3 := HE11.out.g.h4
          obtain ⟨adg, q2, hy0⟩ := Kd.at_int hh3 (i : Int) (by omega) (by have := HON.out; have := N2.out; omega)
          obtain ⟨adg', q2', hy1⟩ := Kd.at_int hh3 (k : Int) (by omega) (by have := HON.out; have := N2.out; omega)
          obtain rfl : adg = adg' := Option.some.inj (q2.symm.trans q2')
          rw [HGX.out, Int.toNat_natCast] at hy0
          rw [HGY.out, Int.toNat_natCast] at hy1
          have f4 := HE11.out.gr.cell 4
          simp only [gC, List.getElem?_toArray, List.getElem?_cons_zero, List.getElem?_cons_succ, HON.out, ← N2.out, q2] at f4
          clear hh3 q2'
          refine start_ (n := 13) (S := fun w' => GE (Pol.mk d A0 c0 (some ad1) c1 A2 c2 (some ad3) c3 A4 c4 A5 c5 A6 c6 A7 c7 A8 c8 A9 c9 A10 c10) g w w' g8 ∧ w'.cell? ⟨g8, 4, none⟩ = some (.slice (some adg) n2 g.c4) ∧ w'.cell? (adg.add i) = some (.int .i64 x) ∧ w'.cell? (adg.add k) = some (.int .i64 y)) (ds := []) #[false, false, false, false, false, false, false, false, false, false, false, false, false] (by kernel_rfl) rfl rfl ⟨HE11.out.move (below_drew (Below.refl _ _)), pw_cell_below (below_drew (Below.refl _ _)) f4, pw_cell_below (below_drew (Below.refl _ _)) hy0, pw_cell_below (below_drew (Below.refl _ _)) hy1⟩ (fun hHeld => ?_)
          clear hy0 hy1 f4 q2
          obtain ⟨W10, hW9⟩ : ∃ W10, W10 = World.drew w11 := ⟨_, rfl⟩
          rw [← hW9] at hHeld ⊢
          clear hW9 HE11
          refine pure_ (i := 0) (N := some 119) (v := ?_) (a' := ?_) #[true, false, false, false, false, false, false, false, false, false, false, false, false] rfl rfl (by kernel_rfl) (fun _ _ _ h => h) (Or.inl ⟨by rfl, ?_⟩) ?_ ?_
          rotate_left
          · intro w'
            go_simp
            with_reducible rfl
          rotate_left
          · simp only [Act.put, List.setIfInBounds_toArray, List.set_cons_zero, List.set_cons_succ]
            rfl
          refine pure_ (i := 1) (N := some 120) (v := ?_) (a' := ?_) #[true, true, false, false, false, false, false, false, false, false, false, false, false] rfl rfl (by kernel_rfl) (fun _ _ _ h => h) (Or.inl ⟨by rfl, ?_⟩) ?_ ?_
          rotate_left
          · intro w'
            go_simp
            with_reducible rfl
          rotate_left
          · simp only [Act.put, List.setIfInBounds_toArray, List.set_cons_zero, List.set_cons_succ]
            rfl
          refine take_ (i := 2) (N := some 121) (v := ?_) (a' := ?_) #[true, true, true, false, false, false, false, false, false, false, false, false, false] rfl rfl (by kernel_rfl) (fun _ _ _ h => h) (Or.inl ⟨by rfl, ?_⟩) hHeld ?_ ?_
          rotate_left
          · rintro w' ⟨s0, s1, s2, s3⟩
            go_simp
            with_reducible rfl
          rotate_left
          · simp only [Act.put, List.setIfInBounds_toArray, List.set_cons_zero, List.set_cons_succ]
            rfl
          refine pure_ (i := 3) (N := some 122) (v := ?_) (a' := ?_) #[true, true, true, true, false, false, false, false, false, false, false, false, false] rfl rfl (by kernel_rfl) (fun _ _ _ h => h) (Or.inl ⟨by rfl, ?_⟩) ?_ ?_
          rotate_left
          · intro w'
            go_simp
            with_reducible rfl
          rotate_left
          · simp only [Act.put, List.setIfInBounds_toArray, List.set_cons_zero, List.set_cons_succ]
            rfl
          refine pure_ (i := 4) (N := some 123) (v := ?_) (a' := ?_) #[true, true, true, true, true, false, false, false, false, false, false, false, false] rfl rfl (by kernel_rfl) (fun _ _ _ h => h) (Or.inl ⟨by rfl, ?_⟩) ?_ ?_
          rotate_left
          · intro w'
            go_simp
            with_reducible rfl
          rotate_left
          · simp only [Act.put, List.setIfInBounds_toArray, List.set_cons_zero, List.set_cons_succ]
            rfl
          refine take_ (i := 5) (N := some 124) (v := ?_) (a' := ?_) #[true, true, true, true, true, true, false, false, false, false, false, false, false] rfl rfl (by kernel_rfl) (fun _ _ _ h => h) (Or.inl ⟨by rfl, ?_⟩) hHeld ?_ ?_
          rotate_left
          · rintro w' ⟨s0, s1, s2, s3⟩
            go_simp
            with_reducible rfl
          rotate_left
          · simp only [Act.put, List.setIfInBounds_toArray, List.set_cons_zero, List.set_cons_succ]
            rfl
          refine pure_ (i := 6) (N := some 125) (v := ?_) (a' := ?_) #[true, true, true, true, true, true, true, false, false, false, false, false, false] rfl rfl (by kernel_rfl) (fun _ _ _ h => h) (Or.inl ⟨by rfl, ?_⟩) ?_ ?_
          rotate_left
          · intro w'
            go_simp
            with_reducible rfl
          rotate_left
          · simp only [Act.put, List.setIfInBounds_toArray, List.set_cons_zero, List.set_cons_succ]
            rfl
          refine take_ (i := 7) (N := some 126) (v := ?_) (a' := ?_) #[true, true, true, true, true, true, true, true, false, false, false, false, false] rfl rfl (by kernel_rfl) (fun _ _ _ h => h) (Or.inl ⟨by rfl, ?_⟩) hHeld ?_ ?_
          rotate_left
          · rintro w' ⟨s0, s1, s2, s3⟩
            go_simp
            with_reducible rfl
          rotate_left
          · simp only [Act.put, List.setIfInBounds_toArray, List.set_cons_zero, List.set_cons_succ]
            rfl
          refine pure_ (i := 8) (N := some 127) (v := ?_) (a' := ?_) #[true, true, true, true, true, true, true, true, true, false, false, false, false] rfl rfl (by kernel_rfl) (fun _ _ _ h => h) (Or.inl ⟨by rfl, ?_⟩) ?_ ?_
          rotate_left
          · intro w'
            go_simp
            with_reducible rfl
          rotate_left
          · simp only [Act.put, List.setIfInBounds_toArray, List.set_cons_zero, List.set_cons_succ]
            rfl
          refine pure_ (i := 9) (N := some 128) (v := ?_) (a' := ?_) #[true, true, true, true, true, true, true, true, true, true, false, false, false] rfl rfl (by kernel_rfl) (fun _ _ _ h => h) (Or.inl ⟨by rfl, ?_⟩) ?_ ?_
          rotate_left
          · intro w'
            go_simp
            with_reducible rfl
          rotate_left
          · simp only [Act.put, List.setIfInBounds_toArray, List.set_cons_zero, List.set_cons_succ]
            rfl
          refine take_ (i := 10) (N := some 129) (v := ?_) (a' := ?_) #[true, true, true, true, true, true, true, true, true, true, true, false, false] rfl rfl (by kernel_rfl) (fun _ _ _ h => h) (Or.inl ⟨by rfl, ?_⟩) hHeld ?_ ?_
          rotate_left
          · rintro w' ⟨s0, s1, s2, s3⟩
            go_simp
            with_reducible rfl
          rotate_left
          · simp only [Act.put, List.setIfInBounds_toArray, List.set_cons_zero, List.set_cons_succ]
            rfl
          refine pure_ (i := 11) (N := some 130) (v := ?_) (a' := ?_) #[true, true, true, true, true, true, true, true, true, true, true, true, false] rfl rfl (by kernel_rfl) (fun _ _ _ h => h) (Or.inl ⟨by rfl, ?_⟩) ?_ ?_
          rotate_left
          · intro w'
            go_simp
            with_reducible rfl
          rotate_left
          · simp only [Act.put, List.setIfInBounds_toArray, List.set_cons_zero, List.set_cons_succ]
            rfl
          refine pure_ (i := 12) (N := some 131) (v := ?_) (a' := ?_) #[true, true, true, true, true, true, true, true, true, true, true, true, true] rfl rfl (by kernel_rfl) (fun _ _ _ h => h) (Or.inl ⟨by rfl, ?_⟩) ?_ ?_
          rotate_left
          · intro w'
            go_simp
            with_reducible rfl
          rotate_left
          · simp only [Act.put, List.setIfInBounds_toArray, List.set_cons_zero, List.set_cons_succ]
            rfl
          refine done_ (by kernel_rfl) ?_
          have HE12 := Aside0.mk hHeld.1
          clear hHeld
          rw [HX.out.out]
          go_wp2
          go_ret
          exact ⟨rfl, HE12.out.below⟩
        · go_wp2
          go_ret
          exact ⟨rfl, HE10.out.below⟩
      · go_wp2
        go_ret
        exact ⟨rfl, HE10.out.below⟩
    · go_upto_region 13 with fail
      have HE10 := HE7
      clear HE7
      by_cases ji : (i : Int) < n2
      · by_cases jk : (k : Int) < n2
        · have hi' : i < d.objs.length := by have := N2.out; omega
          have hk' : k < d.objs.length := by have := N2.out; omega
          have hpin := HP.out.below HE10.out.below
          obtain ⟨ad3, q1, hx0⟩ := Kd.at_string hpin.h3 (i : Int) (by omega) (by simp only []; omega)
          obtain ⟨ad3', q1', hx1⟩ := Kd.at_string hpin.h3 (k : Int) (by omega) (by simp only []; omega)
          have q1 : A3 = some ad3 := q1
          have q1' : A3 = some ad3' := q1'
          obtain rfl : ad3 = ad3' := Option.some.inj (q1.symm.trans q1')
          subst q1
          have hget1 : rdOf ByteArray.empty d.objs (i : Int) = d.objs[i] := by simp [rdOf, hi']
          have hget2 : rdOf ByteArray.empty d.objs (k : Int) = d.objs[k] := by simp [rdOf, hk']
          simp only [hget1, Int.toNat_natCast] at hx0
          simp only [hget2, Int.toNat_natCast] at hx1
          have KI := Aside0.mk (HD.out.objs d.objs[i] (List.getElem_mem hi'))
          have KK := Aside0.mk (HD.out.objs d.objs[k] (List.getElem_mem hk'))
          obtain ⟨x, hx⟩ : ∃ x, g.on[i]? = some x := ⟨_, List.getElem?_eq_getElem (by have := HON.out; omega)⟩
          obtain ⟨y, hy⟩ : ∃ y, g.on[k]? = some y := ⟨_, List.getElem?_eq_getElem (by have := HON.out; omega)⟩
          have hiff := cols_iff d HFF.out.2.1 hi' hk' (x := x) (y := y) (by rw [← HC.out.on]; exact hx) (by rw [← HC.out.on]; exact hy)
          obtain ⟨q, hq⟩ : ∃ q : Bool, q = true ↔ ∀ s ∈ d.subs, maskD d s.f0 d.objs[i] = maskD d s.f0 d.objs[k] := ⟨@decide (∀ s ∈ d.subs, maskD d s.f0 d.objs[i] = maskD d s.f0 d.objs[k]) (Classical.propDecidable _), @decide_eq_true_iff _ (Classical.propDecidable _)⟩
          have HX : Aside0 (Holds ((!(q == (x == y))) = false)) := ⟨⟨by
            rw [← hiff] at hq
            by_cases hxy : x = y
            · rw [hq.2 hxy, hxy]; simp
            · have : q = false := by cases q with
                | false => rfl
                | true => exact absurd (hq.1 rfl) hxy
              rw [this]; simp [hxy]⟩⟩
          have HGX := Aside0.mk (rd_get hx)
          have HGY := Aside0.mk (rd_get hy)
          obtain ⟨oI, hoI⟩ : ∃ oI, oI = d.objs[i] := ⟨_, rfl⟩
          obtain ⟨oK, hoK⟩ : ∃ oK, oK = d.objs[k] := ⟨_, rfl⟩
          rw [← hoI] at hx0 KI hq
          rw [← hoK] at hx1 KK hq
          have HQ : Aside0 (Holds (q = true ↔ ∀ s ∈ d.subs, maskD d s.f0 oI = maskD d s.f0 oK)) := ⟨⟨hq⟩⟩
          clear hpin hget1 hget2 hx hy hiff hq hoI hoK q1' hi' hk'
          go_upto_region 14 with fail
          refine start_ (n := 13) (S := fun w' => GE (Pol.mk d A0 c0 A1 c1 A2 c2 (some ad3) c3 A4 c4 A5 c5 A6 c6 A7 c7 A8 c8 A9 c9 A10 c10) g w w' g8 ∧ w'.cell? ⟨w.heap.size, 3, none⟩ = some (.slice (some ad3) n2 c3) ∧ w'.cell? (ad3.add i) = some (.string oI) ∧ w'.cell? (ad3.add k) = some (.string oK)) (ds := []) #[false, false, false, false, false, false, false, false, false, false, false, false, false] (by kernel_rfl) rfl rfl ⟨HE10.out.move (below_drew (Below.refl _ _)), pw_cell_below (below_drew (Below.refl _ _)) e3, pw_cell_below (below_drew (Below.refl _ _)) hx0, pw_cell_below (below_drew (Below.refl _ _)) hx1⟩ (fun hHeld => ?_)
          clear e1 e3 hx0 hx1
          obtain ⟨W8, hW8⟩ : ∃ W8, W8 = World.drew w7 := ⟨_, rfl⟩
          rw [← hW8] at hHeld ⊢
          clear hW8 HE10
          refine take_ (i := 0) (N := some 107) (v := .agg #[.slice A0 d.acts.length c0, .slice A1 d.subs.length c1, .slice A2 d.roles.length c2, .slice (some ad3) d.objs.length c3, .slice A4 d.grps.length c4, .slice A5 d.mem.length c5, .slice A6 d.inh.length c6, .slice A7 d.par.length c7, .slice A8 d.wit.length c8, .slice A9 d.rules.length c9, .slice A10 d.exc.length c10]) (a' := ?_) #[true, false, false, false, false, false, false, false, false, false, false, false, false] rfl rfl (by kernel_rfl) (fun _ _ _ h => h) (yieldsIf_load_mid (by rfl) 39 (.tmp 3) rfl w.heap.size 0 rfl (#[.slice A0 d.acts.length c0, .slice A1 d.subs.length c1, .slice A2 d.roles.length c2, .slice (some ad3) d.objs.length c3, .slice A4 d.grps.length c4, .slice A5 d.mem.length c5, .slice A6 d.inh.length c6, .slice A7 d.par.length c7, .slice A8 d.wit.length c8, .slice A9 d.rules.length c9, .slice A10 d.exc.length c10]).toList _ (fun w' hs => Stays.range (hs.1.box) _ rfl) Try.underlying39 rfl (by first | exact i39 | (simp; exact i39))) hHeld ?_ ?_
          rotate_left
          · simp only [Act.put, List.setIfInBounds_toArray, List.set_cons_zero, List.set_cons_succ]
            rfl
          refine pure_ (i := 1) (N := some 108) (v := ?_) (a' := ?_) #[true, true, false, false, false, false, false, false, false, false, false, false, false] rfl rfl (by kernel_rfl) (fun _ _ _ h => h) (Or.inl ⟨by rfl, ?_⟩) ?_ ?_
          rotate_left
          · intro w'
            go_simp
            with_reducible rfl
          rotate_left
          · simp only [Act.put, List.setIfInBounds_toArray, List.set_cons_zero, List.set_cons_succ]
            rfl
          refine take_ (i := 2) (N := some 109) (v := ?_) (a' := ?_) #[true, true, true, false, false, false, false, false, false, false, false, false, false] rfl rfl (by kernel_rfl) (fun _ _ _ h => h) (Or.inl ⟨by rfl, ?_⟩) hHeld ?_ ?_
          rotate_left
          · rintro w' ⟨s0, s1, s2, s3⟩
            go_simp
            with_reducible rfl
          rotate_left
          · simp only [Act.put, List.setIfInBounds_toArray, List.set_cons_zero, List.set_cons_succ]
            rfl
          refine pure_ (i := 3) (N := some 110) (v := ?_) (a' := ?_) #[true, true, true, true, false, false, false, false, false, false, false, false, false] rfl rfl (by kernel_rfl) (fun _ _ _ h => h) (Or.inl ⟨by rfl, ?_⟩) ?_ ?_
          rotate_left
          · intro w'
            go_simp
            with_reducible rfl
          rotate_left
          · simp only [Act.put, List.setIfInBounds_toArray, List.set_cons_zero, List.set_cons_succ]
            rfl
          refine pure_ (i := 4) (N := some 111) (v := ?_) (a' := ?_) #[true, true, true, true, true, false, false, false, false, false, false, false, false] rfl rfl (by kernel_rfl) (fun _ _ _ h => h) (Or.inl ⟨by rfl, ?_⟩) ?_ ?_
          rotate_left
          · intro w'
            go_simp
            with_reducible rfl
          rotate_left
          · simp only [Act.put, List.setIfInBounds_toArray, List.set_cons_zero, List.set_cons_succ]
            rfl
          refine take_ (i := 5) (N := some 112) (v := ?_) (a' := ?_) #[true, true, true, true, true, true, false, false, false, false, false, false, false] rfl rfl (by kernel_rfl) (fun _ _ _ h => h) (Or.inl ⟨by rfl, ?_⟩) hHeld ?_ ?_
          rotate_left
          · rintro w' ⟨s0, s1, s2, s3⟩
            go_simp
            with_reducible rfl
          rotate_left
          · simp only [Act.put, List.setIfInBounds_toArray, List.set_cons_zero, List.set_cons_succ]
            rfl
          refine pure_ (i := 6) (N := some 113) (v := ?_) (a' := ?_) #[true, true, true, true, true, true, true, false, false, false, false, false, false] rfl rfl (by kernel_rfl) (fun _ _ _ h => h) (Or.inl ⟨by rfl, ?_⟩) ?_ ?_
          rotate_left
          · intro w'
            go_simp
            with_reducible rfl
          rotate_left
          · simp only [Act.put, List.setIfInBounds_toArray, List.set_cons_zero, List.set_cons_succ]
            rfl
          refine take_ (i := 7) (N := some 114) (v := ?_) (a' := ?_) #[true, true, true, true, true, true, true, true, false, false, false, false, false] rfl rfl (by kernel_rfl) (fun _ _ _ h => h) (Or.inl ⟨by rfl, ?_⟩) hHeld ?_ ?_
          rotate_left
          · rintro w' ⟨s0, s1, s2, s3⟩
            go_simp
            with_reducible rfl
          rotate_left
          · simp only [Act.put, List.setIfInBounds_toArray, List.set_cons_zero, List.set_cons_succ]
            rfl
          refine pure_ (i := 8) (N := some 115) (v := ?_) (a' := ?_) #[true, true, true, true, true, true, true, true, true, false, false, false, false] rfl rfl (by kernel_rfl) (fun _ _ _ h => h) (Or.inl ⟨by rfl, ?_⟩) ?_ ?_
          rotate_left
          · intro w'
            go_simp
            with_reducible rfl
          rotate_left
          · simp only [Act.put, List.setIfInBounds_toArray, List.set_cons_zero, List.set_cons_succ]
            rfl
          refine pure_ (i := 9) (N := some 116) (v := ?_) (a' := ?_) #[true, true, true, true, true, true, true, true, true, true, false, false, false] rfl rfl (by kernel_rfl) (fun _ _ _ h => h) (Or.inl ⟨by rfl, ?_⟩) ?_ ?_
          rotate_left
          · intro w'
            go_simp
            with_reducible rfl
          rotate_left
          · simp only [Act.put, List.setIfInBounds_toArray, List.set_cons_zero, List.set_cons_succ]
            rfl
          refine take_ (i := 10) (N := some 117) (v := ?_) (a' := ?_) #[true, true, true, true, true, true, true, true, true, true, true, false, false] rfl rfl (by kernel_rfl) (fun _ _ _ h => h) (Or.inl ⟨by rfl, ?_⟩) hHeld ?_ ?_
          rotate_left
          · rintro w' ⟨s0, s1, s2, s3⟩
            go_simp
            with_reducible rfl
          rotate_left
          · simp only [Act.put, List.setIfInBounds_toArray, List.set_cons_zero, List.set_cons_succ]
            rfl
          refine one_ (i := 11) (N := some 118) #[true, true, true, true, true, true, true, true, true, true, true, true, false] rfl rfl (by kernel_rfl) (by decide) (fun K hK => ?_)
          refine goes_ Try.func29 (by kernel_rfl) rfl #[.agg #[.slice A0 d.acts.length c0, .slice A1 d.subs.length c1, .slice A2 d.roles.length c2, .slice (some ad3) d.objs.length c3, .slice A4 d.grps.length c4, .slice A5 d.mem.length c5, .slice A6 d.inh.length c6, .slice A7 d.par.length c7, .slice A8 d.wit.length c8, .slice A9 d.rules.length c9, .slice A10 d.exc.length c10], .string oI, .string oK] (by rfl) rfl rfl (by (try simp only [List.map_toArray, List.map_cons, List.map_nil]); first | done | rfl) ?_
          refine (columns_calls (Pol.mk d A0 c0 A1 c1 A2 c2 (some ad3) c3 A4 c4 A5 c5 A6 c6 A7 c7 A8 c8 A9 c9 A10 c10) oI oK _ (HP.out.below hHeld.1.below) HD.out KI.out KK.out HFF.out.1 q HQ.out.out).mono ?_
          rintro e w11 ⟨rfl, hb⟩
          refine ⟨_, rfl, ?_⟩
          have hH := And.intro (hHeld.1.move hb) (And.intro (pw_cell_below hb hHeld.2.1) (And.intro (pw_cell_below hb hHeld.2.2.1) (pw_cell_below hb hHeld.2.2.2)))
          clear hb hHeld
          refine hK.out _ _ hH (fun hHeld => ?_)
          clear hK K hH
          refine norm_ (a' := ?_) ?_ ?_
          rotate_left
          · show Act.put _ (some 118) _ = _
            simp only [Act.put, List.setIfInBounds_toArray, List.set_cons_zero, List.set_cons_succ]
            rfl
          refine pure_ (i := 12) (N := some 10) (v := ?_) (a' := ?_) #[true, true, true, true, true, true, true, true, true, true, true, true, true] rfl rfl (by kernel_rfl) (fun _ _ _ h => h) (Or.inl ⟨by rfl, ?_⟩) ?_ ?_
          rotate_left
          · intro w'
            go_simp
            with_reducible rfl
          rotate_left
          · simp only [Act.put, List.setIfInBounds_toArray, List.set_cons_zero, List.set_cons_succ]
            rfl
          refine done_ (by kernel_rfl) ?_
          have HE11 := Aside0.mk hHeld.1
          clear hHeld HQ KI KK
          go_upto_region 15 with fail
          have hh3 := HE11.out.g.h4
          obtain ⟨adg, q2, hy0⟩ := Kd.at_int hh3 (i : Int) (by omega) (by have := HON.out; have := N2.out; omega)
          obtain ⟨adg', q2', hy1⟩ := Kd.at_int hh3 (k : Int) (by omega) (by have := HON.out; have := N2.out; omega)
          obtain rfl : adg = adg' := Option.some.inj (q2.symm.trans q2')
          rw [HGX.out, Int.toNat_natCast] at hy0
          rw [HGY.out, Int.toNat_natCast] at hy1
          have f4 := HE11.out.gr.cell 4
          simp only [gC, List.getElem?_toArray, List.getElem?_cons_zero, List.getElem?_cons_succ, HON.out, ← N2.out, q2] at f4
          clear hh3 q2'
          refine start_ (n := 13) (S := fun w' => GE (Pol.mk d A0 c0 A1 c1 A2 c2 (some ad3) c3 A4 c4 A5 c5 A6 c6 A7 c7 A8 c8 A9 c9 A10 c10) g w w' g8 ∧ w'.cell? ⟨g8, 4, none⟩ = some (.slice (some adg) n2 g.c4) ∧ w'.cell? (adg.add i) = some (.int .i64 x) ∧ w'.cell? (adg.add k) = some (.int .i64 y)) (ds := []) #[false, false, false, false, false, false, false, false, false, false, false, false, false] (by kernel_rfl) rfl rfl ⟨HE11.out.move (below_drew (Below.refl _ _)), pw_cell_below (below_drew (Below.refl _ _)) f4, pw_cell_below (below_drew (Below.refl _ _)) hy0, pw_cell_below (below_drew (Below.refl _ _)) hy1⟩ (fun hHeld => ?_)
          clear hy0 hy1 f4 q2
          obtain ⟨W10, hW9⟩ : ∃ W10, W10 = World.drew w11 := ⟨_, rfl⟩
          rw [← hW9] at hHeld ⊢
          clear hW9 HE11
          refine pure_ (i := 0) (N := some 119) (v := ?_) (a' := ?_) #[true, false, false, false, false, false, false, false, false, false, false, false, false] rfl rfl (by kernel_rfl) (fun _ _ _ h => h) (Or.inl ⟨by rfl, ?_⟩) ?_ ?_
          rotate_left
          · intro w'
            go_simp
            with_reducible rfl
          rotate_left
          · simp only [Act.put, List.setIfInBounds_toArray, List.set_cons_zero, List.set_cons_succ]
            rfl
          refine pure_ (i := 1) (N := some 120) (v := ?_) (a' := ?_) #[true, true, false, false, false, false, false, false, false, false, false, false, false] rfl rfl (by kernel_rfl) (fun _ _ _ h => h) (Or.inl ⟨by rfl, ?_⟩) ?_ ?_
          rotate_left
          · intro w'
            go_simp
            with_reducible rfl
          rotate_left
          · simp only [Act.put, List.setIfInBounds_toArray, List.set_cons_zero, List.set_cons_succ]
            rfl
          refine take_ (i := 2) (N := some 121) (v := ?_) (a' := ?_) #[true, true, true, false, false, false, false, false, false, false, false, false, false] rfl rfl (by kernel_rfl) (fun _ _ _ h => h) (Or.inl ⟨by rfl, ?_⟩) hHeld ?_ ?_
          rotate_left
          · rintro w' ⟨s0, s1, s2, s3⟩
            go_simp
            with_reducible rfl
          rotate_left
          · simp only [Act.put, List.setIfInBounds_toArray, List.set_cons_zero, List.set_cons_succ]
            rfl
          refine pure_ (i := 3) (N := some 122) (v := ?_) (a' := ?_) #[true, true, true, true, false, false, false, false, false, false, false, false, false] rfl rfl (by kernel_rfl) (fun _ _ _ h => h) (Or.inl ⟨by rfl, ?_⟩) ?_ ?_
          rotate_left
          · intro w'
            go_simp
            with_reducible rfl
          rotate_left
          · simp only [Act.put, List.setIfInBounds_toArray, List.set_cons_zero, List.set_cons_succ]
            rfl
          refine pure_ (i := 4) (N := some 123) (v := ?_) (a' := ?_) #[true, true, true, true, true, false, false, false, false, false, false, false, false] rfl rfl (by kernel_rfl) (fun _ _ _ h => h) (Or.inl ⟨by rfl, ?_⟩) ?_ ?_
          rotate_left
          · intro w'
            go_simp
            with_reducible rfl
          rotate_left
          · simp only [Act.put, List.setIfInBounds_toArray, List.set_cons_zero, List.set_cons_succ]
            rfl
          refine take_ (i := 5) (N := some 124) (v := ?_) (a' := ?_) #[true, true, true, true, true, true, false, false, false, false, false, false, false] rfl rfl (by kernel_rfl) (fun _ _ _ h => h) (Or.inl ⟨by rfl, ?_⟩) hHeld ?_ ?_
          rotate_left
          · rintro w' ⟨s0, s1, s2, s3⟩
            go_simp
            with_reducible rfl
          rotate_left
          · simp only [Act.put, List.setIfInBounds_toArray, List.set_cons_zero, List.set_cons_succ]
            rfl
          refine pure_ (i := 6) (N := some 125) (v := ?_) (a' := ?_) #[true, true, true, true, true, true, true, false, false, false, false, false, false] rfl rfl (by kernel_rfl) (fun _ _ _ h => h) (Or.inl ⟨by rfl, ?_⟩) ?_ ?_
          rotate_left
          · intro w'
            go_simp
            with_reducible rfl
          rotate_left
          · simp only [Act.put, List.setIfInBounds_toArray, List.set_cons_zero, List.set_cons_succ]
            rfl
          refine take_ (i := 7) (N := some 126) (v := ?_) (a' := ?_) #[true, true, true, true, true, true, true, true, false, false, false, false, false] rfl rfl (by kernel_rfl) (fun _ _ _ h => h) (Or.inl ⟨by rfl, ?_⟩) hHeld ?_ ?_
          rotate_left
          · rintro w' ⟨s0, s1, s2, s3⟩
            go_simp
            with_reducible rfl
          rotate_left
          · simp only [Act.put, List.setIfInBounds_toArray, List.set_cons_zero, List.set_cons_succ]
            rfl
          refine pure_ (i := 8) (N := some 127) (v := ?_) (a' := ?_) #[true, true, true, true, true, true, true, true, true, false, false, false, false] rfl rfl (by kernel_rfl) (fun _ _ _ h => h) (Or.inl ⟨by rfl, ?_⟩) ?_ ?_
          rotate_left
          · intro w'
            go_simp
            with_reducible rfl
          rotate_left
          · simp only [Act.put, List.setIfInBounds_toArray, List.set_cons_zero, List.set_cons_succ]
            rfl
          refine pure_ (i := 9) (N := some 128) (v := ?_) (a' := ?_) #[true, true, true, true, true, true, true, true, true, true, false, false, false] rfl rfl (by kernel_rfl) (fun _ _ _ h => h) (Or.inl ⟨by rfl, ?_⟩) ?_ ?_
          rotate_left
          · intro w'
            go_simp
            with_reducible rfl
          rotate_left
          · simp only [Act.put, List.setIfInBounds_toArray, List.set_cons_zero, List.set_cons_succ]
            rfl
          refine take_ (i := 10) (N := some 129) (v := ?_) (a' := ?_) #[true, true, true, true, true, true, true, true, true, true, true, false, false] rfl rfl (by kernel_rfl) (fun _ _ _ h => h) (Or.inl ⟨by rfl, ?_⟩) hHeld ?_ ?_
          rotate_left
          · rintro w' ⟨s0, s1, s2, s3⟩
            go_simp
            with_reducible rfl
          rotate_left
          · simp only [Act.put, List.setIfInBounds_toArray, List.set_cons_zero, List.set_cons_succ]
            rfl
          refine pure_ (i := 11) (N := some 130) (v := ?_) (a' := ?_) #[true, true, true, true, true, true, true, true, true, true, true, true, false] rfl rfl (by kernel_rfl) (fun _ _ _ h => h) (Or.inl ⟨by rfl, ?_⟩) ?_ ?_
          rotate_left
          · intro w'
            go_simp
            with_reducible rfl
          rotate_left
          · simp only [Act.put, List.setIfInBounds_toArray, List.set_cons_zero, List.set_cons_succ]
            rfl
          refine pure_ (i := 12) (N := some 131) (v := ?_) (a' := ?_) #[true, true, true, true, true, true, true, true, true, true, true, true, true] rfl rfl (by kernel_rfl) (fun _ _ _ h => h) (Or.inl ⟨by rfl, ?_⟩) ?_ ?_
          rotate_left
          · intro w'
            go_simp
            with_reducible rfl
          rotate_left
          · simp only [Act.put, List.setIfInBounds_toArray, List.set_cons_zero, List.set_cons_succ]
            rfl
          refine done_ (by kernel_rfl) ?_
          have HE12 := Aside0.mk hHeld.1
          clear hHeld
          rw [HX.out.out]
          go_wp2
          go_ret
          exact ⟨rfl, HE12.out.below⟩
        · go_wp2
          go_ret
          exact ⟨rfl, HE10.out.below⟩
      · go_wp2
        go_ret
        exact ⟨rfl, HE10.out.below⟩
  · go_upto_region 13 with fail
    have HE10 := HE7
    clear HE7
    by_cases ji : (i : Int) < n2
    · by_cases jk : (k : Int) < n2
      · have hi' : i < d.objs.length := by have := N2.out; omega
        have hk' : k < d.objs.length := by have := N2.out; omega
        have hpin := HP.out.below HE10.out.below
        obtain ⟨ad3, q1, hx0⟩ := Kd.at_string hpin.h3 (i : Int) (by omega) (by simp only []; omega)
        obtain ⟨ad3', q1', hx1⟩ := Kd.at_string hpin.h3 (k : Int) (by omega) (by simp only []; omega)
        have q1 : A3 = some ad3 := q1
        have q1' : A3 = some ad3' := q1'
        obtain rfl : ad3 = ad3' := Option.some.inj (q1.symm.trans q1')
        subst q1
        have hget1 : rdOf ByteArray.empty d.objs (i : Int) = d.objs[i] := by simp [rdOf, hi']
        have hget2 : rdOf ByteArray.empty d.objs (k : Int) = d.objs[k] := by simp [rdOf, hk']
        simp only [hget1, Int.toNat_natCast] at hx0
        simp only [hget2, Int.toNat_natCast] at hx1
        have KI := Aside0.mk (HD.out.objs d.objs[i] (List.getElem_mem hi'))
        have KK := Aside0.mk (HD.out.objs d.objs[k] (List.getElem_mem hk'))
        obtain ⟨x, hx⟩ : ∃ x, g.on[i]? = some x := ⟨_, List.getElem?_eq_getElem (by have := HON.out; omega)⟩
        obtain ⟨y, hy⟩ : ∃ y, g.on[k]? = some y := ⟨_, List.getElem?_eq_getElem (by have := HON.out; omega)⟩
        have hiff := cols_iff d HFF.out.2.1 hi' hk' (x := x) (y := y) (by rw [← HC.out.on]; exact hx) (by rw [← HC.out.on]; exact hy)
        obtain ⟨q, hq⟩ : ∃ q : Bool, q = true ↔ ∀ s ∈ d.subs, maskD d s.f0 d.objs[i] = maskD d s.f0 d.objs[k] := ⟨@decide (∀ s ∈ d.subs, maskD d s.f0 d.objs[i] = maskD d s.f0 d.objs[k]) (Classical.propDecidable _), @decide_eq_true_iff _ (Classical.propDecidable _)⟩
        have HX : Aside0 (Holds ((!(q == (x == y))) = false)) := ⟨⟨by
          rw [← hiff] at hq
          by_cases hxy : x = y
          · rw [hq.2 hxy, hxy]; simp
          · have : q = false := by cases q with
              | false => rfl
              | true => exact absurd (hq.1 rfl) hxy
            rw [this]; simp [hxy]⟩⟩
        have HGX := Aside0.mk (rd_get hx)
        have HGY := Aside0.mk (rd_get hy)
        obtain ⟨oI, hoI⟩ : ∃ oI, oI = d.objs[i] := ⟨_, rfl⟩
        obtain ⟨oK, hoK⟩ : ∃ oK, oK = d.objs[k] := ⟨_, rfl⟩
        rw [← hoI] at hx0 KI hq
        rw [← hoK] at hx1 KK hq
        have HQ : Aside0 (Holds (q = true ↔ ∀ s ∈ d.subs, maskD d s.f0 oI = maskD d s.f0 oK)) := ⟨⟨hq⟩⟩
        clear hpin hget1 hget2 hx hy hiff hq hoI hoK q1' hi' hk'
        go_upto_region 14 with fail
        refine start_ (n := 13) (S := fun w' => GE (Pol.mk d A0 c0 A1 c1 A2 c2 (some ad3) c3 A4 c4 A5 c5 A6 c6 A7 c7 A8 c8 A9 c9 A10 c10) g w w' g8 ∧ w'.cell? ⟨w.heap.size, 3, none⟩ = some (.slice (some ad3) n2 c3) ∧ w'.cell? (ad3.add i) = some (.string oI) ∧ w'.cell? (ad3.add k) = some (.string oK)) (ds := []) #[false, false, false, false, false, false, false, false, false, false, false, false, false] (by kernel_rfl) rfl rfl ⟨HE10.out.move (below_drew (Below.refl _ _)), pw_cell_below (below_drew (Below.refl _ _)) e3, pw_cell_below (below_drew (Below.refl _ _)) hx0, pw_cell_below (below_drew (Below.refl _ _)) hx1⟩ (fun hHeld => ?_)
        clear e1 e3 hx0 hx1
        obtain ⟨W8, hW8⟩ : ∃ W8, W8 = World.drew w7 := ⟨_, rfl⟩
        rw [← hW8] at hHeld ⊢
        clear hW8 HE10
        refine take_ (i := 0) (N := some 107) (v := .agg #[.slice A0 d.acts.length c0, .slice A1 d.subs.length c1, .slice A2 d.roles.length c2, .slice (some ad3) d.objs.length c3, .slice A4 d.grps.length c4, .slice A5 d.mem.length c5, .slice A6 d.inh.length c6, .slice A7 d.par.length c7, .slice A8 d.wit.length c8, .slice A9 d.rules.length c9, .slice A10 d.exc.length c10]) (a' := ?_) #[true, false, false, false, false, false, false, false, false, false, false, false, false] rfl rfl (by kernel_rfl) (fun _ _ _ h => h) (yieldsIf_load_mid (by rfl) 39 (.tmp 3) rfl w.heap.size 0 rfl (#[.slice A0 d.acts.length c0, .slice A1 d.subs.length c1, .slice A2 d.roles.length c2, .slice (some ad3) d.objs.length c3, .slice A4 d.grps.length c4, .slice A5 d.mem.length c5, .slice A6 d.inh.length c6, .slice A7 d.par.length c7, .slice A8 d.wit.length c8, .slice A9 d.rules.length c9, .slice A10 d.exc.length c10]).toList _ (fun w' hs => Stays.range (hs.1.box) _ rfl) Try.underlying39 rfl (by first | exact i39 | (simp; exact i39))) hHeld ?_ ?_
        rotate_left
        · simp only [Act.put, List.setIfInBounds_toArray, List.set_cons_zero, List.set_cons_succ]
          rfl
        refine pure_ (i := 1) (N := some 108) (v := ?_) (a' := ?_) #[true, true, false, false, false, false, false, false, false, false, false, false, false] rfl rfl (by kernel_rfl) (fun _ _ _ h => h) (Or.inl ⟨by rfl, ?_⟩) ?_ ?_
        rotate_left
        · intro w'
          go_simp
          with_reducible rfl
        rotate_left
        · simp only [Act.put, List.setIfInBounds_toArray, List.set_cons_zero, List.set_cons_succ]
          rfl
        refine take_ (i := 2) (N := some 109) (v := ?_) (a' := ?_) #[true, true, true, false, false, false, false, false, false, false, false, false, false] rfl rfl (by kernel_rfl) (fun _ _ _ h => h) (Or.inl ⟨by rfl, ?_⟩) hHeld ?_ ?_
        rotate_left
        · rintro w' ⟨s0, s1, s2, s3⟩
          go_simp
          with_reducible rfl
        rotate_left
        · simp only [Act.put, List.setIfInBounds_toArray, List.set_cons_zero, List.set_cons_succ]
          rfl
        refine pure_ (i := 3) (N := some 110) (v := ?_) (a' := ?_) #[true, true, true, true, false, false, false, false, false, false, false, false, false] rfl rfl (by kernel_rfl) (fun _ _ _ h => h) (Or.inl ⟨by rfl, ?_⟩) ?_ ?_
        rotate_left
        · intro w'
          go_simp
          with_reducible rfl
        rotate_left
        · simp only [Act.put, List.setIfInBounds_toArray, List.set_cons_zero, List.set_cons_succ]
          rfl
        refine pure_ (i := 4) (N := some 111) (v := ?_) (a' := ?_) #[true, true, true, true, true, false, false, false, false, false, false, false, false] rfl rfl (by kernel_rfl) (fun _ _ _ h => h) (Or.inl ⟨by rfl, ?_⟩) ?_ ?_
        rotate_left
        · intro w'
          go_simp
          with_reducible rfl
        rotate_left
        · simp only [Act.put, List.setIfInBounds_toArray, List.set_cons_zero, List.set_cons_succ]
          rfl
        refine take_ (i := 5) (N := some 112) (v := ?_) (a' := ?_) #[true, true, true, true, true, true, false, false, false, false, false, false, false] rfl rfl (by kernel_rfl) (fun _ _ _ h => h) (Or.inl ⟨by rfl, ?_⟩) hHeld ?_ ?_
        rotate_left
        · rintro w' ⟨s0, s1, s2, s3⟩
          go_simp
          with_reducible rfl
        rotate_left
        · simp only [Act.put, List.setIfInBounds_toArray, List.set_cons_zero, List.set_cons_succ]
          rfl
        refine pure_ (i := 6) (N := some 113) (v := ?_) (a' := ?_) #[true, true, true, true, true, true, true, false, false, false, false, false, false] rfl rfl (by kernel_rfl) (fun _ _ _ h => h) (Or.inl ⟨by rfl, ?_⟩) ?_ ?_
        rotate_left
        · intro w'
          go_simp
          with_reducible rfl
        rotate_left
        · simp only [Act.put, List.setIfInBounds_toArray, List.set_cons_zero, List.set_cons_succ]
          rfl
        refine take_ (i := 7) (N := some 114) (v := ?_) (a' := ?_) #[true, true, true, true, true, true, true, true, false, false, false, false, false] rfl rfl (by kernel_rfl) (fun _ _ _ h => h) (Or.inl ⟨by rfl, ?_⟩) hHeld ?_ ?_
        rotate_left
        · rintro w' ⟨s0, s1, s2, s3⟩
          go_simp
          with_reducible rfl
        rotate_left
        · simp only [Act.put, List.setIfInBounds_toArray, List.set_cons_zero, List.set_cons_succ]
          rfl
        refine pure_ (i := 8) (N := some 115) (v := ?_) (a' := ?_) #[true, true, true, true, true, true, true, true, true, false, false, false, false] rfl rfl (by kernel_rfl) (fun _ _ _ h => h) (Or.inl ⟨by rfl, ?_⟩) ?_ ?_
        rotate_left
        · intro w'
          go_simp
          with_reducible rfl
        rotate_left
        · simp only [Act.put, List.setIfInBounds_toArray, List.set_cons_zero, List.set_cons_succ]
          rfl
        refine pure_ (i := 9) (N := some 116) (v := ?_) (a' := ?_) #[true, true, true, true, true, true, true, true, true, true, false, false, false] rfl rfl (by kernel_rfl) (fun _ _ _ h => h) (Or.inl ⟨by rfl, ?_⟩) ?_ ?_
        rotate_left
        · intro w'
          go_simp
          with_reducible rfl
        rotate_left
        · simp only [Act.put, List.setIfInBounds_toArray, List.set_cons_zero, List.set_cons_succ]
          rfl
        refine take_ (i := 10) (N := some 117) (v := ?_) (a' := ?_) #[true, true, true, true, true, true, true, true, true, true, true, false, false] rfl rfl (by kernel_rfl) (fun _ _ _ h => h) (Or.inl ⟨by rfl, ?_⟩) hHeld ?_ ?_
        rotate_left
        · rintro w' ⟨s0, s1, s2, s3⟩
          go_simp
          with_reducible rfl
        rotate_left
        · simp only [Act.put, List.setIfInBounds_toArray, List.set_cons_zero, List.set_cons_succ]
          rfl
        refine one_ (i := 11) (N := some 118) #[true, true, true, true, true, true, true, true, true, true, true, true, false] rfl rfl (by kernel_rfl) (by decide) (fun K hK => ?_)
        refine goes_ Try.func29 (by kernel_rfl) rfl #[.agg #[.slice A0 d.acts.length c0, .slice A1 d.subs.length c1, .slice A2 d.roles.length c2, .slice (some ad3) d.objs.length c3, .slice A4 d.grps.length c4, .slice A5 d.mem.length c5, .slice A6 d.inh.length c6, .slice A7 d.par.length c7, .slice A8 d.wit.length c8, .slice A9 d.rules.length c9, .slice A10 d.exc.length c10], .string oI, .string oK] (by rfl) rfl rfl (by (try simp only [List.map_toArray, List.map_cons, List.map_nil]); first | done | rfl) ?_
        refine (columns_calls (Pol.mk d A0 c0 A1 c1 A2 c2 (some ad3) c3 A4 c4 A5 c5 A6 c6 A7 c7 A8 c8 A9 c9 A10 c10) oI oK _ (HP.out.below hHeld.1.below) HD.out KI.out KK.out HFF.out.1 q HQ.out.out).mono ?_
        rintro e w11 ⟨rfl, hb⟩
        refine ⟨_, rfl, ?_⟩
        have hH := And.intro (hHeld.1.move hb) (And.intro (pw_cell_below hb hHeld.2.1) (And.intro (pw_cell_below hb hHeld.2.2.1) (pw_cell_below hb hHeld.2.2.2)))
        clear hb hHeld
        refine hK.out _ _ hH (fun hHeld => ?_)
        clear hK K hH
        refine norm_ (a' := ?_) ?_ ?_
        rotate_left
        · show Act.put _ (some 118) _ = _
          simp only [Act.put, List.setIfInBounds_toArray, List.set_cons_zero, List.set_cons_succ]
          rfl
        refine pure_ (i := 12) (N := some 10) (v := ?_) (a' := ?_) #[true, true, true, true, true, true, true, true, true, true, true, true, true] rfl rfl (by kernel_rfl) (fun _ _ _ h => h) (Or.inl ⟨by rfl, ?_⟩) ?_ ?_
        rotate_left
        · intro w'
          go_simp
          with_reducible rfl
        rotate_left
        · simp only [Act.put, List.setIfInBounds_toArray, List.set_cons_zero, List.set_cons_succ]
          rfl
        refine done_ (by kernel_rfl) ?_
        have HE11 := Aside0.mk hHeld.1
        clear hHeld HQ KI KK
        go_upto_region 15 with fail
        have hh3 := HE11.out.g.h4
        obtain ⟨adg, q2, hy0⟩ := Kd.at_int hh3 (i : Int) (by omega) (by have := HON.out; have := N2.out; omega)
        obtain ⟨adg', q2', hy1⟩ := Kd.at_int hh3 (k : Int) (by omega) (by have := HON.out; have := N2.out; omega)
        obtain rfl : adg = adg' := Option.some.inj (q2.symm.trans q2')
        rw [HGX.out, Int.toNat_natCast] at hy0
        rw [HGY.out, Int.toNat_natCast] at hy1
        have f4 := HE11.out.gr.cell 4
        simp only [gC, List.getElem?_toArray, List.getElem?_cons_zero, List.getElem?_cons_succ, HON.out, ← N2.out, q2] at f4
        clear hh3 q2'
        refine start_ (n := 13) (S := fun w' => GE (Pol.mk d A0 c0 A1 c1 A2 c2 (some ad3) c3 A4 c4 A5 c5 A6 c6 A7 c7 A8 c8 A9 c9 A10 c10) g w w' g8 ∧ w'.cell? ⟨g8, 4, none⟩ = some (.slice (some adg) n2 g.c4) ∧ w'.cell? (adg.add i) = some (.int .i64 x) ∧ w'.cell? (adg.add k) = some (.int .i64 y)) (ds := []) #[false, false, false, false, false, false, false, false, false, false, false, false, false] (by kernel_rfl) rfl rfl ⟨HE11.out.move (below_drew (Below.refl _ _)), pw_cell_below (below_drew (Below.refl _ _)) f4, pw_cell_below (below_drew (Below.refl _ _)) hy0, pw_cell_below (below_drew (Below.refl _ _)) hy1⟩ (fun hHeld => ?_)
        clear hy0 hy1 f4 q2
        obtain ⟨W10, hW9⟩ : ∃ W10, W10 = World.drew w11 := ⟨_, rfl⟩
        rw [← hW9] at hHeld ⊢
        clear hW9 HE11
        refine pure_ (i := 0) (N := some 119) (v := ?_) (a' := ?_) #[true, false, false, false, false, false, false, false, false, false, false, false, false] rfl rfl (by kernel_rfl) (fun _ _ _ h => h) (Or.inl ⟨by rfl, ?_⟩) ?_ ?_
        rotate_left
        · intro w'
          go_simp
          with_reducible rfl
        rotate_left
        · simp only [Act.put, List.setIfInBounds_toArray, List.set_cons_zero, List.set_cons_succ]
          rfl
        refine pure_ (i := 1) (N := some 120) (v := ?_) (a' := ?_) #[true, true, false, false, false, false, false, false, false, false, false, false, false] rfl rfl (by kernel_rfl) (fun _ _ _ h => h) (Or.inl ⟨by rfl, ?_⟩) ?_ ?_
        rotate_left
        · intro w'
          go_simp
          with_reducible rfl
        rotate_left
        · simp only [Act.put, List.setIfInBounds_toArray, List.set_cons_zero, List.set_cons_succ]
          rfl
        refine take_ (i := 2) (N := some 121) (v := ?_) (a' := ?_) #[true, true, true, false, false, false, false, false, false, false, false, false, false] rfl rfl (by kernel_rfl) (fun _ _ _ h => h) (Or.inl ⟨by rfl, ?_⟩) hHeld ?_ ?_
        rotate_left
        · rintro w' ⟨s0, s1, s2, s3⟩
          go_simp
          with_reducible rfl
        rotate_left
        · simp only [Act.put, List.setIfInBounds_toArray, List.set_cons_zero, List.set_cons_succ]
          rfl
        refine pure_ (i := 3) (N := some 122) (v := ?_) (a' := ?_) #[true, true, true, true, false, false, false, false, false, false, false, false, false] rfl rfl (by kernel_rfl) (fun _ _ _ h => h) (Or.inl ⟨by rfl, ?_⟩) ?_ ?_
        rotate_left
        · intro w'
          go_simp
          with_reducible rfl
        rotate_left
        · simp only [Act.put, List.setIfInBounds_toArray, List.set_cons_zero, List.set_cons_succ]
          rfl
        refine pure_ (i := 4) (N := some 123) (v := ?_) (a' := ?_) #[true, true, true, true, true, false, false, false, false, false, false, false, false] rfl rfl (by kernel_rfl) (fun _ _ _ h => h) (Or.inl ⟨by rfl, ?_⟩) ?_ ?_
        rotate_left
        · intro w'
          go_simp
          with_reducible rfl
        rotate_left
        · simp only [Act.put, List.setIfInBounds_toArray, List.set_cons_zero, List.set_cons_succ]
          rfl
        refine take_ (i := 5) (N := some 124) (v := ?_) (a' := ?_) #[true, true, true, true, true, true, false, false, false, false, false, false, false] rfl rfl (by kernel_rfl) (fun _ _ _ h => h) (Or.inl ⟨by rfl, ?_⟩) hHeld ?_ ?_
        rotate_left
        · rintro w' ⟨s0, s1, s2, s3⟩
          go_simp
          with_reducible rfl
        rotate_left
        · simp only [Act.put, List.setIfInBounds_toArray, List.set_cons_zero, List.set_cons_succ]
          rfl
        refine pure_ (i := 6) (N := some 125) (v := ?_) (a' := ?_) #[true, true, true, true, true, true, true, false, false, false, false, false, false] rfl rfl (by kernel_rfl) (fun _ _ _ h => h) (Or.inl ⟨by rfl, ?_⟩) ?_ ?_
        rotate_left
        · intro w'
          go_simp
          with_reducible rfl
        rotate_left
        · simp only [Act.put, List.setIfInBounds_toArray, List.set_cons_zero, List.set_cons_succ]
          rfl
        refine take_ (i := 7) (N := some 126) (v := ?_) (a' := ?_) #[true, true, true, true, true, true, true, true, false, false, false, false, false] rfl rfl (by kernel_rfl) (fun _ _ _ h => h) (Or.inl ⟨by rfl, ?_⟩) hHeld ?_ ?_
        rotate_left
        · rintro w' ⟨s0, s1, s2, s3⟩
          go_simp
          with_reducible rfl
        rotate_left
        · simp only [Act.put, List.setIfInBounds_toArray, List.set_cons_zero, List.set_cons_succ]
          rfl
        refine pure_ (i := 8) (N := some 127) (v := ?_) (a' := ?_) #[true, true, true, true, true, true, true, true, true, false, false, false, false] rfl rfl (by kernel_rfl) (fun _ _ _ h => h) (Or.inl ⟨by rfl, ?_⟩) ?_ ?_
        rotate_left
        · intro w'
          go_simp
          with_reducible rfl
        rotate_left
        · simp only [Act.put, List.setIfInBounds_toArray, List.set_cons_zero, List.set_cons_succ]
          rfl
        refine pure_ (i := 9) (N := some 128) (v := ?_) (a' := ?_) #[true, true, true, true, true, true, true, true, true, true, false, false, false] rfl rfl (by kernel_rfl) (fun _ _ _ h => h) (Or.inl ⟨by rfl, ?_⟩) ?_ ?_
        rotate_left
        · intro w'
          go_simp
          with_reducible rfl
        rotate_left
        · simp only [Act.put, List.setIfInBounds_toArray, List.set_cons_zero, List.set_cons_succ]
          rfl
        refine take_ (i := 10) (N := some 129) (v := ?_) (a' := ?_) #[true, true, true, true, true, true, true, true, true, true, true, false, false] rfl rfl (by kernel_rfl) (fun _ _ _ h => h) (Or.inl ⟨by rfl, ?_⟩) hHeld ?_ ?_
        rotate_left
        · rintro w' ⟨s0, s1, s2, s3⟩
          go_simp
          with_reducible rfl
        rotate_left
        · simp only [Act.put, List.setIfInBounds_toArray, List.set_cons_zero, List.set_cons_succ]
          rfl
        refine pure_ (i := 11) (N := some 130) (v := ?_) (a' := ?_) #[true, true, true, true, true, true, true, true, true, true, true, true, false] rfl rfl (by kernel_rfl) (fun _ _ _ h => h) (Or.inl ⟨by rfl, ?_⟩) ?_ ?_
        rotate_left
        · intro w'
          go_simp
          with_reducible rfl
        rotate_left
        · simp only [Act.put, List.setIfInBounds_toArray, List.set_cons_zero, List.set_cons_succ]
          rfl
        refine pure_ (i := 12) (N := some 131) (v := ?_) (a' := ?_) #[true, true, true, true, true, true, true, true, true, true, true, true, true] rfl rfl (by kernel_rfl) (fun _ _ _ h => h) (Or.inl ⟨by rfl, ?_⟩) ?_ ?_
        rotate_left
        · intro w'
          go_simp
          with_reducible rfl
        rotate_left
        · simp only [Act.put, List.setIfInBounds_toArray, List.set_cons_zero, List.set_cons_succ]
          rfl
        refine done_ (by kernel_rfl) ?_
        have HE12 := Aside0.mk hHeld.1
        clear hHeld
        rw [HX.out.out]
        go_wp2
        go_ret
        exact ⟨rfl, HE12.out.below⟩
      · go_wp2
        go_ret
        exact ⟨rfl, HE10.out.below⟩
    · go_wp2
      go_ret
      exact ⟨rfl, HE10.out.below⟩

end Go.Proofs.Ythaiodklfoegiaa.CLClasses
