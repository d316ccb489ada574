/- gatehouselaw11.GraphValid, walked. -/
import Derived.Test.YthaiodklfoegiaaGValidMain
import Derived.Test.YthaiodklfoegiaaPGx13
namespace Go.Proofs.Ythaiodklfoegiaa.GValid
open Go.RowKit Go.Proofs.YthaiodklfoegiaaW.PrintWords Go.Proofs.YthaiodklfoegiaaW.PrintLast Go.Proofs.YthaiodklfoegiaaW.PrintMore Go.Proofs.Ythaiodklfoegiaa.BMap Go.Proofs.Ythaiodklfoegiaa.BRow Go.Proofs.Ythaiodklfoegiaa.GDiffer Go.Proofs.Ythaiodklfoegiaa.GBlk Go.Proofs.Ythaiodklfoegiaa.VPure Go.Maps
open Go.Proofs.Ythaiodklfoegiaa

theorem ref_valid_calls (g : G) (w : World) (hg : g.In w) :
    Calls Try.prog 13 #[g.val] w fun e w' => e = .returned (.bool (validB g.la g.ls g.lo g.of g.on g.ms)) ∧ Below w.heap.size w w' := by
  obtain ⟨k, hk⟩ := (ref_valid g.la g.ls g.lo g.of g.on g.ms (fun row hr x hx => by
    have h2 : IntKind.u16.min ≤ x ∧ x ≤ IntKind.u16.max := by simpa [Lit.wf] using hg.u16 row hr x hx
    exact h2) hg.h0.2.1 hg.h1.2.1 hg.h2.2.1 hg.h3.2.1 hg.h4.2.1 hg.h5.2.1).rounds
  exact PG.gatehouseref11_Valid.calls k g.A0 g.c0 g.la g.A1 g.c1 g.ls g.A2 g.c2 g.lo g.A3 g.c3 g.of g.A4 g.c4 g.on g.A5 g.c5 g.ms _ w hg.h0 hg.l0 hg.h1 hg.l1 hg.h2 hg.l2 hg.h3 hg.l3 hg.h4 hg.l4 hg.h5 hg.l5 hk

/-- The parameter's variable, whatever it is. -/
structure Box6 (B : Nat) (cs : Array Value) (w w1 : World) : Prop where
  below : Below w.heap.size w w1
  box : w1.heap[w.heap.size]? = some (.cells cs 26 (0, 0))
theorem Box6.go {B : Nat} {cs : Array Value} {w w1 w2 : World} (h : Box6 B cs w w1) (hb : Below w1.heap.size w1 w2) : Box6 B cs w w2 := by
  have hlt := (Array.getElem?_eq_some_iff.1 h.box).1
  exact ⟨h.below.trans (hb.mono (Nat.le_of_lt hlt)), by rw [hb.block _ hlt]; exact h.box⟩
theorem Box6.cell {B : Nat} {cs : Array Value} {w w1 : World} (h : Box6 B cs w w1) (j : Nat) : w1.cell? ⟨w.heap.size, j, none⟩ = cs[j]? := by
  rw [cell_of_row _ _ _ _ _ _ h.box]

set_option maxHeartbeats 2000000 in
set_option maxRecDepth 100000 in
theorem law_calls (g : G) (w : World) (hg : g.In w) : Calls Try.prog 4 #[g.val] w fun e w' => e = .returned (.bool true) ∧ Below w.heap.size w w' := by
  have HG := Aside0.mk hg
  clear hg
  obtain ⟨A0, c0, la, A1, c1, ls, A2, c2, lo, A3, c3, of, A4, c4, on, A5, c5, ms⟩ := g
  obtain ⟨vb, hvb⟩ : ∃ vb, vb = validB la ls lo of on ms := ⟨_, rfl⟩
  have hu26 := Try.underlying26
  unfold G.val
  go_enter Try.func4, Try.ntmps4
  go_wp2
  have HX : Box6 0 #[.slice A0 la.length c0, .slice A1 ls.length c1, .slice A2 lo.length c2, .slice A3 of.length c3, .slice A4 on.length c4, .slice A5 ms.length c5] w (w.alloc (.cells #[.slice A0 la.length c0, .slice A1 ls.length c1, .slice A2 lo.length c2, .slice A3 of.length c3, .slice A4 on.length c4, .slice A5 ms.length c5] 26)).drew := ⟨((Below.refl _ _).alloc (Nat.le_refl _) _).drew, heap_alloc_new w _⟩
  refine start_ (n := 6) (S := fun w' => w'.cell? ⟨w.heap.size, 0, none⟩ = some (.slice A0 la.length c0) ∧ w'.cell? ⟨w.heap.size, 1, none⟩ = some (.slice A1 ls.length c1) ∧ w'.cell? ⟨w.heap.size, 2, none⟩ = some (.slice A2 lo.length c2) ∧ w'.cell? ⟨w.heap.size, 3, none⟩ = some (.slice A3 of.length c3) ∧ w'.cell? ⟨w.heap.size, 4, none⟩ = some (.slice A4 on.length c4) ∧ w'.cell? ⟨w.heap.size, 5, none⟩ = some (.slice A5 ms.length c5)) (ds := []) #[false, false, false, false, false, false] (by kernel_rfl) rfl rfl ⟨HX.cell 0, HX.cell 1, HX.cell 2, HX.cell 3, HX.cell 4, HX.cell 5⟩ (fun hHeld => ?_)
  obtain ⟨W, hW⟩ : ∃ W, W = (w.alloc (.cells #[.slice A0 la.length c0, .slice A1 ls.length c1, .slice A2 lo.length c2, .slice A3 of.length c3, .slice A4 on.length c4, .slice A5 ms.length c5] 26)).drew := ⟨_, rfl⟩
  rw [← hW] at HX hHeld ⊢
  clear hW
  refine take_ (i := 0) (N := some 3) (v := ?_) (a' := ?_) #[true, false, false, false, false, false] rfl rfl (by kernel_rfl) (fun _ _ _ h => h) (Or.inl ⟨by rfl, ?_⟩) hHeld ?_ ?_
  rotate_left
  · rintro w' ⟨s0, s1, s2, s3, s4, s5⟩
    go_simp
    with_reducible rfl
  rotate_left
  · simp only [Act.put, List.setIfInBounds_toArray, List.set_cons_zero, List.set_cons_succ]
    rfl
  refine take_ (i := 2) (N := some 5) (v := ?_) (a' := ?_) #[true, false, true, false, false, false] rfl rfl (by kernel_rfl) (fun _ _ _ h => h) (Or.inl ⟨by rfl, ?_⟩) hHeld ?_ ?_
  rotate_left
  · rintro w' ⟨s0, s1, s2, s3, s4, s5⟩
    go_simp
    with_reducible rfl
  rotate_left
  · simp only [Act.put, List.setIfInBounds_toArray, List.set_cons_zero, List.set_cons_succ]
    rfl
  refine one_ (i := 1) (N := some 4) #[true, true, true, false, false, false] rfl rfl (by kernel_rfl) (by decide) (fun K hK => ?_)
  refine goes_ Try.func12 (by kernel_rfl) rfl #[.agg #[.slice A0 la.length c0, .slice A1 ls.length c1, .slice A2 lo.length c2, .slice A3 of.length c3, .slice A4 on.length c4, .slice A5 ms.length c5]] (by rfl) rfl rfl (by (try simp only [List.map_toArray, List.map_cons, List.map_nil]); first | done | rfl) ?_
  refine (valid_calls ⟨A0, c0, la, A1, c1, ls, A2, c2, lo, A3, c3, of, A4, c4, on, A5, c5, ms⟩ W (HG.out.below HX.below)).mono ?_
  rintro e w8 ⟨rfl, hb⟩
  refine ⟨_, rfl, ?_⟩
  have HX := HX.go hb
  clear hb
  rw [← hvb]
  refine hK.out _ _ ⟨HX.cell 0, HX.cell 1, HX.cell 2, HX.cell 3, HX.cell 4, HX.cell 5⟩ (fun hHeld => ?_)
  clear hK K
  refine norm_ (a' := ?_) ?_ ?_
  rotate_left
  · show Act.put _ (some 4) _ = _
    simp only [Act.put, List.setIfInBounds_toArray, List.set_cons_zero, List.set_cons_succ]
    rfl
  refine one_ (i := 3) (N := some 6) #[true, true, true, true, false, false] rfl rfl (by kernel_rfl) (by decide) (fun K hK => ?_)
  refine goes_ Try.func13 (by kernel_rfl) rfl #[.agg #[.slice A0 la.length c0, .slice A1 ls.length c1, .slice A2 lo.length c2, .slice A3 of.length c3, .slice A4 on.length c4, .slice A5 ms.length c5]] (by rfl) rfl rfl (by (try simp only [List.map_toArray, List.map_cons, List.map_nil]); first | done | rfl) ?_
  refine (ref_valid_calls ⟨A0, c0, la, A1, c1, ls, A2, c2, lo, A3, c3, of, A4, c4, on, A5, c5, ms⟩ w8 (HG.out.below HX.below)).mono ?_
  rintro e w9 ⟨rfl, hb⟩
  refine ⟨_, rfl, ?_⟩
  have HX := HX.go hb
  clear hb
  rw [← hvb]
  refine hK.out _ _ ⟨HX.cell 0, HX.cell 1, HX.cell 2, HX.cell 3, HX.cell 4, HX.cell 5⟩ (fun hHeld => ?_)
  clear hK K
  refine norm_ (a' := ?_) ?_ ?_
  rotate_left
  · show Act.put _ (some 6) _ = _
    simp only [Act.put, List.setIfInBounds_toArray, List.set_cons_zero, List.set_cons_succ]
    rfl
  refine pure_ (i := 4) (N := some 7) (v := ?_) (a' := ?_) #[true, true, true, true, true, false] rfl rfl (by kernel_rfl) (fun _ _ _ h => h) (Or.inl ⟨by rfl, ?_⟩) ?_ ?_
  rotate_left
  · intro w'
    go_simp
    with_reducible rfl
  rotate_left
  · simp only [Act.put, List.setIfInBounds_toArray, List.set_cons_zero, List.set_cons_succ]
    rfl
  refine pure_ (i := 5) (N := some 2) (v := ?_) (a' := ?_) #[true, true, true, true, true, true] rfl rfl (by kernel_rfl) (fun _ _ _ h => h) (Or.inl ⟨by rfl, ?_⟩) ?_ ?_
  rotate_left
  · intro w'
    go_simp
    with_reducible rfl
  rotate_left
  · simp only [Act.put, List.setIfInBounds_toArray, List.set_cons_zero, List.set_cons_succ]
    rfl
  refine done_ (by kernel_rfl) ?_
  go_wp2
  go_ret
  exact ⟨by simp, HX.below⟩
end Go.Proofs.Ythaiodklfoegiaa.GValid
