/- Of this session's texts, what the row uses: KDecls. -/
import Derived.Test.YtacggjhgdkkclaaZ9
import Derived.Test.YtacggjhgdkkclaaZ10
/- canon.Decls, walked. -/
namespace Go.Proofs.Ytacggjhgdkkclaa.KDecls
open Go.RowKit Go.Proofs.YtacggjhgdkkclaaW.PrintWords Go.Proofs.YtacggjhgdkkclaaW.PrintLast Go.Proofs.YtacggjhgdkkclaaW.PrintMore Go.Maps
open Go.Proofs.Ytacggjhgdkkclaa Go.Proofs.Ytacggjhgdkkclaa.PG Go.Proofs.YtacggjhgdkkclaaF Go.Proofs.Ytacggjhgdkkclaa.KBase Go.Proofs.Ytacggjhgdkkclaa.KDP Go.Proofs.Ytacggjhgdkkclaa.KDR
set_option linter.unusedSimpArgs false
attribute [local go_sem high] run_feq run_fne run_flt_lt run_flt_le run_flt_gt run_flt_ge
structure Lens (d : PolD) : Prop where
 acts : d.acts.length ≤ 1048576
 subs : d.subs.length ≤ 1048576
 roles : d.roles.length ≤ 1048576
 objs : d.objs.length ≤ 1048576
 grps : d.grps.length ≤ 1048576
 mem : d.mem.length ≤ 1048576
 inh : d.inh.length ≤ 1048576
 par : d.par.length ≤ 1048576
 wit : d.wit.length ≤ 1048576
 rules : d.rules.length ≤ 1048576
 exc : d.exc.length ≤ 1048576
def rulesF (K : Nat) (d : PolD) : Option (List S47) := canon_rules.f K d.acts d.subs d.roles d.objs d.grps d.mem d.inh d.par d.wit d.rules d.exc
theorem rules_go (p : Pol) (K : Nat) (rs : List S47) (w : World) (hp : p.In w) (h : rulesF K p.d = some rs) : Calls Try.prog 18 #[.agg p.cells] w fun e w' => ∃ v, e = .returned v ∧ Kd.S k47 47 w' w.heap.size (fun _ => True) v rs ∧ Below w.heap.size w w' :=
 canon_rules.calls K p.A0 p.c0 p.d.acts p.A1 p.c1 p.d.subs p.A2 p.c2 p.d.roles p.A3 p.c3 p.d.objs p.A4 p.c4 p.d.grps p.A5 p.c5 p.d.mem p.A6 p.c6 p.d.inh p.A7 p.c7 p.d.par p.A8 p.c8 p.d.wit p.A9 p.c9 p.d.rules p.A10 p.c10 p.d.exc rs w hp.h0 hp.l0 hp.h1 hp.l1 hp.h2 hp.l2 hp.h3 hp.l3 hp.h4 hp.l4 hp.h5 hp.l5 hp.h6 hp.l6 hp.h7 hp.l7 hp.h8 hp.l8 hp.h9 hp.l9 hp.h10 hp.l10 h
def declsL (d : PolD) (rs : List S47) : List S47 := singleL 1 d.acts ++ subjL d.subs ++ singleL 3 d.roles ++ singleL 4 d.objs ++ singleL 5 d.grps ++ doubleL 6 d.mem ++ doubleL 7 d.inh ++ doubleL 8 d.par ++ doubleL 9 d.wit ++ rs ++ excL d.exc
set_option maxHeartbeats 8000000 in
set_option maxRecDepth 100000 in
theorem decls_calls (p : Pol) (KK : Nat) (rs : List S47) (w : World) (hp : p.In w) (hl : Lens p.d) (hr : rulesF KK p.d = some rs) (hrl : rs.length ≤ 1048576) :
  Calls Try.prog 6 #[.agg p.cells] w fun e w' => ∃ v, e = .returned v ∧ Kd.S k47 47 w' w.heap.size (fun _ => True) v (declsL p.d rs) ∧ Below w.heap.size w w' := by
 obtain ⟨d, A0, c0, A1, c1, A2, c2, A3, c3, A4, c4, A5, c5, A6, c6, A7, c7, A8, c8, A9, c9, A10, c10⟩ := p
 have HIN := Aside0.mk (fun (W : World) (hb : Below w.heap.size w W) => hp.below hb)
 have HL := Aside0.mk (show Lens d from hl)
 have HRS := Aside0.mk (show rulesF KK d = some rs from hr)
 have HRL := Aside0.mk hrl
 have hx : Dv w w.heap.size #[.slice A0 d.acts.length c0, .slice A1 d.subs.length c1, .slice A2 d.roles.length c2, .slice A3 d.objs.length c3, .slice A4 d.grps.length c4, .slice A5 d.mem.length c5, .slice A6 d.inh.length c6, .slice A7 d.par.length c7, .slice A8 d.wit.length c8, .slice A9 d.rules.length c9, .slice A10 d.exc.length c10] (w.heap.size + 1) [] ((w.alloc (.cells #[.slice A0 d.acts.length c0, .slice A1 d.subs.length c1, .slice A2 d.roles.length c2, .slice A3 d.objs.length c3, .slice A4 d.grps.length c4, .slice A5 d.mem.length c5, .slice A6 d.inh.length c6, .slice A7 d.par.length c7, .slice A8 d.wit.length c8, .slice A9 d.rules.length c9, .slice A10 d.exc.length c10] 28)).alloc (.cells #[.slice none 0 0] 29)) (.slice none 0 0) := by
  have hb := below_alloc (Below.refl w.heap.size w) (.cells #[.slice A0 d.acts.length c0, .slice A1 d.subs.length c1, .slice A2 d.roles.length c2, .slice A3 d.objs.length c3, .slice A4 d.grps.length c4, .slice A5 d.mem.length c5, .slice A6 d.inh.length c6, .slice A7 d.par.length c7, .slice A8 d.wit.length c8, .slice A9 d.rules.length c9, .slice A10 d.exc.length c10] 28)
  refine ⟨Stays.below (heap_alloc_new w (.cells #[.slice A0 d.acts.length c0, .slice A1 d.subs.length c1, .slice A2 d.roles.length c2, .slice A3 d.objs.length c3, .slice A4 d.grps.length c4, .slice A5 d.mem.length c5, .slice A6 d.inh.length c6, .slice A7 d.par.length c7, .slice A8 d.wit.length c8, .slice A9 d.rules.length c9, .slice A10 d.exc.length c10] 28)) (below_alloc (Below.refl _ _) _), ?_, Kd.S_nil _ _ _ _ _, below_alloc hb _, by omega⟩
  have h := heap_alloc_new (w.alloc (.cells #[.slice A0 d.acts.length c0, .slice A1 d.subs.length c1, .slice A2 d.roles.length c2, .slice A3 d.objs.length c3, .slice A4 d.grps.length c4, .slice A5 d.mem.length c5, .slice A6 d.inh.length c6, .slice A7 d.par.length c7, .slice A8 d.wit.length c8, .slice A9 d.rules.length c9, .slice A10 d.exc.length c10] 28)) (.cells #[.slice none 0 0] 29)
  rw [World.size_alloc] at h
  exact h
 have HV := Aside0.mk hx
 have HNE : Aside0 (w.heap.size ≠ w.heap.size + 1) := ⟨by omega⟩
 clear hp hl hr hrl hx
 unfold Pol.cells
 go_enter Try.func6, Try.ntmps6
 go_upto_region 4 with fail
 obtain ⟨W0, hW0⟩ : ∃ W0, W0 = (w.alloc (.cells #[.slice A0 d.acts.length c0, .slice A1 d.subs.length c1, .slice A2 d.roles.length c2, .slice A3 d.objs.length c3, .slice A4 d.grps.length c4, .slice A5 d.mem.length c5, .slice A6 d.inh.length c6, .slice A7 d.par.length c7, .slice A8 d.wit.length c8, .slice A9 d.rules.length c9, .slice A10 d.exc.length c10] 28)).alloc (.cells #[.slice none 0 0] 29) := ⟨_, rfl⟩
 obtain ⟨g3, hg3⟩ : ∃ g3, g3 = w.heap.size + 1 := ⟨_, rfl⟩
 obtain ⟨gp, hgp⟩ : ∃ gp, gp = w.heap.size := ⟨_, rfl⟩
 rw [← hW0] at HV ⊢
 rw [← hg3] at HV HNE ⊢
 rw [show Dv w w.heap.size = Dv w gp by rw [hgp]] at HV
 rw [← hgp] at HNE ⊢
 clear hW0 hg3 hgp
 have HLM := Aside0.mk (show ([] : List S47).length + d.acts.length ≤ 16777216 by have h0 := HL.out.acts; have h1 := HL.out.subs; have h2 := HL.out.roles; have h3 := HL.out.objs; have h4 := HL.out.grps; have h5 := HL.out.mem; have h6 := HL.out.inh; have h7 := HL.out.par; have h8 := HL.out.wit; have h9 := HRL.out; have h10 := HL.out.exc; simp only [List.length_append, List.length_nil, singleL, doubleL, subjL, List.length_map]; omega)
 have e0 := HV.out.box.cell 0
 simp only [List.getElem?_toArray, List.getElem?_cons_zero, List.getElem?_cons_succ] at e0
 go_upto_region 5 with (go_at_call 15; ((with_reducible refine (KDSingle.single_calls w gp #[.slice A0 d.acts.length c0, .slice A1 d.subs.length c1, .slice A2 d.roles.length c2, .slice A3 d.objs.length c3, .slice A4 d.grps.length c4, .slice A5 d.mem.length c5, .slice A6 d.inh.length c6, .slice A7 d.par.length c7, .slice A8 d.wit.length c8, .slice A9 d.rules.length c9, .slice A10 d.exc.length c10] g3 [] (.slice none 0 0) 1 A0 c0 d.acts _ HNE.out HV.out (fun W hb => (HIN.out W hb).h0) HLM.out).mono ?_); rintro e W0 ⟨rfl, v0, hv⟩; have HV := Aside0.mk hv; clear hv))
 clear HLM e0
 rw [List.nil_append] at HV
 have e1 := HV.out.box.cell 1
 simp only [List.getElem?_toArray, List.getElem?_cons_zero, List.getElem?_cons_succ] at e1
 go_upto_region 6 with fail
 clear e1
 go_loopw [19] (fun u19 wr => ∃ (i : Nat) (v : Value), i ≤ d.subs.length ∧ u19 = .int .i64 i ∧ Aside0 (Dv w gp #[.slice A0 d.acts.length c0, .slice A1 d.subs.length c1, .slice A2 d.roles.length c2, .slice A3 d.objs.length c3, .slice A4 d.grps.length c4, .slice A5 d.mem.length c5, .slice A6 d.inh.length c6, .slice A7 d.par.length c7, .slice A8 d.wit.length c8, .slice A9 d.rules.length c9, .slice A10 d.exc.length c10] g3 (singleL 1 d.acts ++ (subjL d.subs).take i) wr v)) (fun u19 _ => d.subs.length - (intOf u19).toNat)
 case atStart => exact ⟨0, v0, by omega, rfl, by rw [List.take_zero, List.append_nil]; exact HV⟩
 case round =>
  clear HV
  obtain ⟨i, v, hi, rfl, HV⟩ := hrel
  by_cases hlt : i < d.subs.length
  ·have hlt' : ((i : Int) < d.subs.length) := by omega
   obtain ⟨ad, rfl, hx0, hx1⟩ := at_T42 (show Kd.C k42 wr A1 d.subs.length d.subs from (HIN.out wr HV.out.below).h1) (i : Int) (by omega) (by omega)
   have hq : rd_T42 d.subs (i : Int) = d.subs[i] := by simp [rd_T42, List.getD_eq_getElem?_getD, hlt]
   rw [hq] at hx0 hx1
   obtain ⟨q, hqq⟩ : ∃ q, q = d.subs[i] := ⟨_, rfl⟩
   rw [← hqq] at hx0 hx1
   simp only [Int.toNat_natCast] at hx0 hx1
   have HNX := Aside0.mk (show singleL 1 d.acts ++ (subjL d.subs).take (i + 1) = (singleL 1 d.acts ++ (subjL d.subs).take i) ++ [(⟨2, 0, 0, z44, z44, [⟨q.f0, 0, 0⟩], false, 0, q.f1⟩ : S47)] by rw [List.append_assoc, hqq]; congr 1; exact take_snoc _ d.subs i hlt)
   have HLM := Aside0.mk (show ((singleL 1 d.acts ++ (subjL d.subs).take i).length + 1) * 128 ≤ 140737488355328 by have h1 := HL.out.acts; have h3 := HL.out.subs; have h2 : ((subjL d.subs).take i).length ≤ i := List.length_take_le _ _; simp only [List.length_append, singleL, List.length_map] at h2 ⊢; omega)
   clear hq hqq
   have HZ := Aside0.mk (show ∀ w : World, (zeroValue 42).run Try.prog w = .ok (.agg #[.string ⟨#[]⟩, .float .f64 0]) w from fun w => by kernel_rfl)
   go_upto_region 8 with (first | ((with_reducible refine gate_dst (N := 7) rfl ?_); refine wpList_alloc_store rfl rfl 42 7 (.tmp 22) rfl rfl rfl #[.string ⟨#[]⟩, .float .f64 0] #[.string q.f0, .float .f64 q.f1] _ (HZ.out _) rfl (by kernel_rfl) rfl (by simp [Value.oneCell']) rfl rfl ?_))
   have hg6 : Stays (wr.alloc (.cells #[.string q.f0, .float .f64 q.f1] 42)) wr.heap.size #[.string q.f0, .float .f64 q.f1] 42 := heap_alloc_new wr (.cells #[.string q.f0, .float .f64 q.f1] 42)
   have HV := Aside0.mk (HV.out.move (below_alloc (Below.refl _ wr) (.cells #[.string q.f0, .float .f64 q.f1] 42)))
   obtain ⟨g6, hg6e⟩ : ∃ g6, g6 = wr.heap.size := ⟨_, rfl⟩
   rw [← hg6e] at hg6 ⊢
   have HG6 := Aside0.mk hg6
   generalize wr.alloc (.cells #[.string q.f0, .float .f64 q.f1] 42) = wr at HV HG6 ⊢
   clear hg6 hg6e HZ hx0 hx1
   refine start_ (n := 10) (S := fun w' => w'.cell? ⟨g3, 0, none⟩ = some v ∧ w'.cell? ⟨g6, 0, none⟩ = some (.string q.f0) ∧ w'.cell? ⟨g6, 1, none⟩ = some (.float .f64 q.f1)) (ds := [8, 9]) #[false, false, false, false, false, false, false, false, false, false] (by kernel_rfl) rfl rfl (show wr.drew.cell? ⟨g3, 0, none⟩ = some v ∧ wr.drew.cell? ⟨g6, 0, none⟩ = some (.string q.f0) ∧ wr.drew.cell? ⟨g6, 1, none⟩ = some (.float .f64 q.f1) from ⟨HV.out.cell, HG6.out.cell 0, HG6.out.cell 1⟩) (fun hHeld => ?_)
   refine pure_ (i := 1) (N := some 24) (v := ?_) (a' := ?_) #[false, true, false, false, false, false, false, false, false, false] rfl rfl (by kernel_rfl) (fun _ _ _ h => h) (Or.inl ⟨by rfl, ?_⟩) ?_ ?_
   rotate_left
   ·intro w'
    go_simp
    with_reducible rfl
   rotate_left
   ·simp only [Act.put, List.setIfInBounds_toArray, List.set_cons_zero, List.set_cons_succ]
    rfl
   refine pure_ (i := 4) (N := some 27) (v := ?_) (a' := ?_) #[false, true, false, false, true, false, false, false, false, false] rfl rfl (by kernel_rfl) (fun _ _ _ h => h) (Or.inl ⟨by rfl, ?_⟩) ?_ ?_
   rotate_left
   ·intro w'
    go_simp
    with_reducible rfl
   rotate_left
   ·simp only [Act.put, List.setIfInBounds_toArray, List.set_cons_zero, List.set_cons_succ]
    rfl
   refine take_ (i := 0) (N := some 23) (v := ?_) (a' := ?_) #[true, true, false, false, true, false, false, false, false, false] rfl rfl (by kernel_rfl) (fun _ _ _ h => h) (Or.inl ⟨by rfl, ?_⟩) hHeld ?_ ?_
   rotate_left
   ·rintro w' ⟨s0, s1, s2⟩
    go_simp
    with_reducible rfl
   rotate_left
   ·simp only [Act.put, List.setIfInBounds_toArray, List.set_cons_zero, List.set_cons_succ]
    rfl
   refine take_ (i := 2) (N := some 25) (v := ?_) (a' := ?_) #[true, true, true, false, true, false, false, false, false, false] rfl rfl (by kernel_rfl) (fun _ _ _ h => h) (Or.inl ⟨by rfl, ?_⟩) hHeld ?_ ?_
   rotate_left
   ·rintro w' ⟨s0, s1, s2⟩
    go_simp
    with_reducible rfl
   rotate_left
   ·simp only [Act.put, List.setIfInBounds_toArray, List.set_cons_zero, List.set_cons_succ]
    rfl
   refine take_ (i := 5) (N := some 28) (v := ?_) (a' := ?_) #[true, true, true, false, true, true, false, false, false, false] rfl rfl (by kernel_rfl) (fun _ _ _ h => h) (Or.inl ⟨by rfl, ?_⟩) hHeld ?_ ?_
   rotate_left
   ·rintro w' ⟨s0, s1, s2⟩
    go_simp
    with_reducible rfl
   rotate_left
   ·simp only [Act.put, List.setIfInBounds_toArray, List.set_cons_zero, List.set_cons_succ]
    rfl
   refine one_ (i := 3) (N := some 26) #[true, true, true, true, true, true, false, false, false, false] rfl rfl (by kernel_rfl) (by decide) (fun K hK => ?_)
   refine goes_ Try.func16 (by kernel_rfl) rfl #[.string q.f0] (by rfl) rfl rfl (by (try simp only [List.map_toArray, List.map_cons, List.map_nil]); first | done | rfl) ?_
   refine (one_go q.f0 _).mono ?_
   rintro e W1 ⟨v9, rfl, hR1, hb1⟩
   refine ⟨_, rfl, ?_⟩
   obtain ⟨A9, c9, e9⟩ := Kd.R_slice hR1
   replace e9 : v9 = .slice A9 1 c9 := e9
   subst e9
   have hb2 : Below wr.heap.size wr W1 := below_then (below_drew (Below.refl wr.heap.size wr)) (Nat.le_refl _) hb1
   have HB1 := Aside0.mk hb2
   have HR1 := Aside0.mk (show Kd.R k44 44 W1 wr.heap.size (fun _ => True) (.slice A9 1 c9) [⟨q.f0, 0, 0⟩] from hR1)
   have hh := And.intro (pw_cell_below hb2 HV.out.cell) (And.intro (pw_cell_below hb2 (HG6.out.cell 0)) (pw_cell_below hb2 (HG6.out.cell 1)))
   clear hR1 hb1 hb2
   refine hK.out _ _ hh (fun hHeld => ?_)
   clear hK K hh
   refine norm_ (a' := ?_) ?_ ?_
   rotate_left
   ·show Act.put _ (some 26) _ = _
    simp only [Act.put, List.setIfInBounds_toArray, List.set_cons_zero, List.set_cons_succ]
    rfl
   refine pure_ (i := 6) (N := some 29) (v := ?_) (a' := ?_) #[true, true, true, true, true, true, true, false, false, false] rfl rfl (by kernel_rfl) (fun _ _ _ h => h) (Or.inl ⟨by rfl, ?_⟩) ?_ ?_
   rotate_left
   ·intro w'
    go_simp
    with_reducible rfl
   rotate_left
   ·simp only [Act.put, List.setIfInBounds_toArray, List.set_cons_zero, List.set_cons_succ]
    rfl
   refine one_ (i := 7) (N := some 30) #[true, true, true, true, true, true, true, true, false, false] rfl rfl (by kernel_rfl) (by decide) (fun K hK => ?_)
   refine step_run (w' := W1.alloc (.cells #[.int .i8 2, .int .i64 0, .int .i64 0, .string ⟨#[]⟩, .int .i64 0, .int .i64 0, .string ⟨#[]⟩, .int .i64 0, .int .i64 0, .slice A9 1 c9, .bool false, .int .i8 0, .float .f64 q.f1] 47)) (v := .slice (some ⟨W1.heap.size, 0, none⟩) 1 1) rfl rfl (by go_simp) ?_
   have hba := below_alloc (Below.refl _ W1) (.cells #[.int .i8 2, .int .i64 0, .int .i64 0, .string ⟨#[]⟩, .int .i64 0, .int .i64 0, .string ⟨#[]⟩, .int .i64 0, .int .i64 0, .slice A9 1 c9, .bool false, .int .i8 0, .float .f64 q.f1] 47)
   have hh := And.intro (pw_cell_below hba hHeld.1) (And.intro (pw_cell_below hba hHeld.2.1) (pw_cell_below hba hHeld.2.2))
   clear hba
   clear hHeld
   refine hK.out _ _ hh (fun hHeld => ?_)
   clear hK K hh hHeld
   refine norm_ (a' := ?_) ?_ ?_
   rotate_left
   ·show Act.put _ (some 30) _ = _
    simp only [Act.put, List.setIfInBounds_toArray, List.set_cons_zero, List.set_cons_succ]
    rfl
   refine last_ (i := 8) (N := some 31) #[true, true, true, true, true, true, true, true, true, false] rfl rfl (by kernel_rfl) (by decide) (fun K hK => ?_)
   refine app_step HV.out HNE.out HB1.out (⟨2, 0, 0, z44, z44, [⟨q.f0, 0, 0⟩], false, 0, q.f1⟩ : S47) HR1.out HLM.out rfl (.tmp 23) (.tmp 30) rfl rfl rfl [.int .i8 2, .int .i64 0, .int .i64 0, .string ⟨#[]⟩, .int .i64 0, .int .i64 0, .string ⟨#[]⟩, .int .i64 0, .int .i64 0, .slice A9 1 c9, .bool false, .int .i8 0, .float .f64 q.f1] rfl ?_
   intro v2 w2 x2 y2 HV2
   refine hK.out _ _ ?_
   clear hK K
   refine norm_ (a' := ?_) ?_ ?_
   rotate_left
   ·show Act.put _ (some 31) _ = _
    simp only [Act.put, List.setIfInBounds_toArray, List.set_cons_zero, List.set_cons_succ]
    rfl
   refine last_ (i := 9) (N := none) #[true, true, true, true, true, true, true, true, true, true] rfl rfl (by kernel_rfl) (by decide) (fun K hK => ?_)
   refine KBase.step_skip (w' := w2.setCell ⟨g3, 0, none⟩ v2) rfl rfl (by obtain ⟨A2, c2, e2⟩ := Kd.S_slice HV2.out.row; rw [e2] at *; go_simp) ?_
   refine hK.out _ _ ?_
   clear hK K x2 y2
   refine done_ (by kernel_rfl) ?_
   rw [← HNX.out] at HV2
   go_wp2
   exact round_end hlt (by have := HL.out.subs; omega) (fun hq => ⟨i + 1, v2, by omega, hq, HV2⟩)
  ·have hil : i = d.subs.length := by omega
   have hlt' : ¬ ((i : Int) < d.subs.length) := by omega
   have hfull : (subjL d.subs).take i = subjL d.subs := List.take_of_length_le (by unfold subjL; rw [List.length_map]; omega)
   rw [hfull] at HV
   clear hfull hlt hi
   go_upto_region 10 with fail
   clear hil hlt'
   have HLM := Aside0.mk (show ((singleL 1 d.acts ++ subjL d.subs) : List S47).length + d.roles.length ≤ 16777216 by have h0 := HL.out.acts; have h1 := HL.out.subs; have h2 := HL.out.roles; have h3 := HL.out.objs; have h4 := HL.out.grps; have h5 := HL.out.mem; have h6 := HL.out.inh; have h7 := HL.out.par; have h8 := HL.out.wit; have h9 := HRL.out; have h10 := HL.out.exc; simp only [List.length_append, List.length_nil, singleL, doubleL, subjL, List.length_map]; omega)
   have e2 := HV.out.box.cell 2
   simp only [List.getElem?_toArray, List.getElem?_cons_zero, List.getElem?_cons_succ] at e2
   go_upto_region 11 with (go_at_call 15; ((with_reducible refine (KDSingle.single_calls w gp #[.slice A0 d.acts.length c0, .slice A1 d.subs.length c1, .slice A2 d.roles.length c2, .slice A3 d.objs.length c3, .slice A4 d.grps.length c4, .slice A5 d.mem.length c5, .slice A6 d.inh.length c6, .slice A7 d.par.length c7, .slice A8 d.wit.length c8, .slice A9 d.rules.length c9, .slice A10 d.exc.length c10] g3 (singleL 1 d.acts ++ subjL d.subs) v 3 A2 c2 d.roles _ HNE.out HV.out (fun W hb => (HIN.out W hb).h2) HLM.out).mono ?_); rintro e W2 ⟨rfl, v11, hv⟩; have HV := Aside0.mk hv; clear hv))
   clear HLM e2
   have HLM := Aside0.mk (show ((singleL 1 d.acts ++ subjL d.subs ++ singleL 3 d.roles) : List S47).length + d.objs.length ≤ 16777216 by have h0 := HL.out.acts; have h1 := HL.out.subs; have h2 := HL.out.roles; have h3 := HL.out.objs; have h4 := HL.out.grps; have h5 := HL.out.mem; have h6 := HL.out.inh; have h7 := HL.out.par; have h8 := HL.out.wit; have h9 := HRL.out; have h10 := HL.out.exc; simp only [List.length_append, List.length_nil, singleL, doubleL, subjL, List.length_map]; omega)
   have e3 := HV.out.box.cell 3
   simp only [List.getElem?_toArray, List.getElem?_cons_zero, List.getElem?_cons_succ] at e3
   go_upto_region 12 with (go_at_call 15; ((with_reducible refine (KDSingle.single_calls w gp #[.slice A0 d.acts.length c0, .slice A1 d.subs.length c1, .slice A2 d.roles.length c2, .slice A3 d.objs.length c3, .slice A4 d.grps.length c4, .slice A5 d.mem.length c5, .slice A6 d.inh.length c6, .slice A7 d.par.length c7, .slice A8 d.wit.length c8, .slice A9 d.rules.length c9, .slice A10 d.exc.length c10] g3 (singleL 1 d.acts ++ subjL d.subs ++ singleL 3 d.roles) v11 4 A3 c3 d.objs _ HNE.out HV.out (fun W hb => (HIN.out W hb).h3) HLM.out).mono ?_); rintro e W3 ⟨rfl, v12, hv⟩; have HV := Aside0.mk hv; clear hv))
   clear HLM e3
   have HLM := Aside0.mk (show ((singleL 1 d.acts ++ subjL d.subs ++ singleL 3 d.roles ++ singleL 4 d.objs) : List S47).length + d.grps.length ≤ 16777216 by have h0 := HL.out.acts; have h1 := HL.out.subs; have h2 := HL.out.roles; have h3 := HL.out.objs; have h4 := HL.out.grps; have h5 := HL.out.mem; have h6 := HL.out.inh; have h7 := HL.out.par; have h8 := HL.out.wit; have h9 := HRL.out; have h10 := HL.out.exc; simp only [List.length_append, List.length_nil, singleL, doubleL, subjL, List.length_map]; omega)
   have e4 := HV.out.box.cell 4
   simp only [List.getElem?_toArray, List.getElem?_cons_zero, List.getElem?_cons_succ] at e4
   go_upto_region 13 with (go_at_call 15; ((with_reducible refine (KDSingle.single_calls w gp #[.slice A0 d.acts.length c0, .slice A1 d.subs.length c1, .slice A2 d.roles.length c2, .slice A3 d.objs.length c3, .slice A4 d.grps.length c4, .slice A5 d.mem.length c5, .slice A6 d.inh.length c6, .slice A7 d.par.length c7, .slice A8 d.wit.length c8, .slice A9 d.rules.length c9, .slice A10 d.exc.length c10] g3 (singleL 1 d.acts ++ subjL d.subs ++ singleL 3 d.roles ++ singleL 4 d.objs) v12 5 A4 c4 d.grps _ HNE.out HV.out (fun W hb => (HIN.out W hb).h4) HLM.out).mono ?_); rintro e W4 ⟨rfl, v13, hv⟩; have HV := Aside0.mk hv; clear hv))
   clear HLM e4
   have HLM := Aside0.mk (show ((singleL 1 d.acts ++ subjL d.subs ++ singleL 3 d.roles ++ singleL 4 d.objs ++ singleL 5 d.grps) : List S47).length + d.mem.length ≤ 16777216 by have h0 := HL.out.acts; have h1 := HL.out.subs; have h2 := HL.out.roles; have h3 := HL.out.objs; have h4 := HL.out.grps; have h5 := HL.out.mem; have h6 := HL.out.inh; have h7 := HL.out.par; have h8 := HL.out.wit; have h9 := HRL.out; have h10 := HL.out.exc; simp only [List.length_append, List.length_nil, singleL, doubleL, subjL, List.length_map]; omega)
   have e5 := HV.out.box.cell 5
   simp only [List.getElem?_toArray, List.getElem?_cons_zero, List.getElem?_cons_succ] at e5
   go_upto_region 14 with (go_at_call 17; ((with_reducible refine (KDDouble.double_calls w gp #[.slice A0 d.acts.length c0, .slice A1 d.subs.length c1, .slice A2 d.roles.length c2, .slice A3 d.objs.length c3, .slice A4 d.grps.length c4, .slice A5 d.mem.length c5, .slice A6 d.inh.length c6, .slice A7 d.par.length c7, .slice A8 d.wit.length c8, .slice A9 d.rules.length c9, .slice A10 d.exc.length c10] g3 (singleL 1 d.acts ++ subjL d.subs ++ singleL 3 d.roles ++ singleL 4 d.objs ++ singleL 5 d.grps) v13 6 A5 c5 d.mem _ HNE.out HV.out (fun W hb => (HIN.out W hb).h5) HLM.out).mono ?_); rintro e W5 ⟨rfl, v14, hv⟩; have HV := Aside0.mk hv; clear hv))
   clear HLM e5
   have HLM := Aside0.mk (show ((singleL 1 d.acts ++ subjL d.subs ++ singleL 3 d.roles ++ singleL 4 d.objs ++ singleL 5 d.grps ++ doubleL 6 d.mem) : List S47).length + d.inh.length ≤ 16777216 by have h0 := HL.out.acts; have h1 := HL.out.subs; have h2 := HL.out.roles; have h3 := HL.out.objs; have h4 := HL.out.grps; have h5 := HL.out.mem; have h6 := HL.out.inh; have h7 := HL.out.par; have h8 := HL.out.wit; have h9 := HRL.out; have h10 := HL.out.exc; simp only [List.length_append, List.length_nil, singleL, doubleL, subjL, List.length_map]; omega)
   have e6 := HV.out.box.cell 6
   simp only [List.getElem?_toArray, List.getElem?_cons_zero, List.getElem?_cons_succ] at e6
   go_upto_region 15 with (go_at_call 17; ((with_reducible refine (KDDouble.double_calls w gp #[.slice A0 d.acts.length c0, .slice A1 d.subs.length c1, .slice A2 d.roles.length c2, .slice A3 d.objs.length c3, .slice A4 d.grps.length c4, .slice A5 d.mem.length c5, .slice A6 d.inh.length c6, .slice A7 d.par.length c7, .slice A8 d.wit.length c8, .slice A9 d.rules.length c9, .slice A10 d.exc.length c10] g3 (singleL 1 d.acts ++ subjL d.subs ++ singleL 3 d.roles ++ singleL 4 d.objs ++ singleL 5 d.grps ++ doubleL 6 d.mem) v14 7 A6 c6 d.inh _ HNE.out HV.out (fun W hb => (HIN.out W hb).h6) HLM.out).mono ?_); rintro e W6 ⟨rfl, v15, hv⟩; have HV := Aside0.mk hv; clear hv))
   clear HLM e6
   have HLM := Aside0.mk (show ((singleL 1 d.acts ++ subjL d.subs ++ singleL 3 d.roles ++ singleL 4 d.objs ++ singleL 5 d.grps ++ doubleL 6 d.mem ++ doubleL 7 d.inh) : List S47).length + d.par.length ≤ 16777216 by have h0 := HL.out.acts; have h1 := HL.out.subs; have h2 := HL.out.roles; have h3 := HL.out.objs; have h4 := HL.out.grps; have h5 := HL.out.mem; have h6 := HL.out.inh; have h7 := HL.out.par; have h8 := HL.out.wit; have h9 := HRL.out; have h10 := HL.out.exc; simp only [List.length_append, List.length_nil, singleL, doubleL, subjL, List.length_map]; omega)
   have e7 := HV.out.box.cell 7
   simp only [List.getElem?_toArray, List.getElem?_cons_zero, List.getElem?_cons_succ] at e7
   go_upto_region 16 with (go_at_call 17; ((with_reducible refine (KDDouble.double_calls w gp #[.slice A0 d.acts.length c0, .slice A1 d.subs.length c1, .slice A2 d.roles.length c2, .slice A3 d.objs.length c3, .slice A4 d.grps.length c4, .slice A5 d.mem.length c5, .slice A6 d.inh.length c6, .slice A7 d.par.length c7, .slice A8 d.wit.length c8, .slice A9 d.rules.length c9, .slice A10 d.exc.length c10] g3 (singleL 1 d.acts ++ subjL d.subs ++ singleL 3 d.roles ++ singleL 4 d.objs ++ singleL 5 d.grps ++ doubleL 6 d.mem ++ doubleL 7 d.inh) v15 8 A7 c7 d.par _ HNE.out HV.out (fun W hb => (HIN.out W hb).h7) HLM.out).mono ?_); rintro e W7 ⟨rfl, v16, hv⟩; have HV := Aside0.mk hv; clear hv))
   clear HLM e7
   have HLM := Aside0.mk (show ((singleL 1 d.acts ++ subjL d.subs ++ singleL 3 d.roles ++ singleL 4 d.objs ++ singleL 5 d.grps ++ doubleL 6 d.mem ++ doubleL 7 d.inh ++ doubleL 8 d.par) : List S47).length + d.wit.length ≤ 16777216 by have h0 := HL.out.acts; have h1 := HL.out.subs; have h2 := HL.out.roles; have h3 := HL.out.objs; have h4 := HL.out.grps; have h5 := HL.out.mem; have h6 := HL.out.inh; have h7 := HL.out.par; have h8 := HL.out.wit; have h9 := HRL.out; have h10 := HL.out.exc; simp only [List.length_append, List.length_nil, singleL, doubleL, subjL, List.length_map]; omega)
   have e8 := HV.out.box.cell 8
   simp only [List.getElem?_toArray, List.getElem?_cons_zero, List.getElem?_cons_succ] at e8
   go_upto_region 17 with (go_at_call 17; ((with_reducible refine (KDDouble.double_calls w gp #[.slice A0 d.acts.length c0, .slice A1 d.subs.length c1, .slice A2 d.roles.length c2, .slice A3 d.objs.length c3, .slice A4 d.grps.length c4, .slice A5 d.mem.length c5, .slice A6 d.inh.length c6, .slice A7 d.par.length c7, .slice A8 d.wit.length c8, .slice A9 d.rules.length c9, .slice A10 d.exc.length c10] g3 (singleL 1 d.acts ++ subjL d.subs ++ singleL 3 d.roles ++ singleL 4 d.objs ++ singleL 5 d.grps ++ doubleL 6 d.mem ++ doubleL 7 d.inh ++ doubleL 8 d.par) v16 9 A8 c8 d.wit _ HNE.out HV.out (fun W hb => (HIN.out W hb).h8) HLM.out).mono ?_); rintro e W8 ⟨rfl, v17, hv⟩; have HV := Aside0.mk hv; clear hv))
   clear HLM e8
   obtain ⟨xs, hxs⟩ : ∃ xs, xs = singleL 1 d.acts ++ subjL d.subs ++ singleL 3 d.roles ++ singleL 4 d.objs ++ singleL 5 d.grps ++ doubleL 6 d.mem ++ doubleL 7 d.inh ++ doubleL 8 d.par ++ doubleL 9 d.wit := ⟨_, rfl⟩
   have HLM := Aside0.mk (show (xs.length + rs.length) * 128 ≤ 140737488355328 by rw [hxs]; have h0 := HL.out.acts; have h1 := HL.out.subs; have h2 := HL.out.roles; have h3 := HL.out.objs; have h4 := HL.out.grps; have h5 := HL.out.mem; have h6 := HL.out.inh; have h7 := HL.out.par; have h8 := HL.out.wit; have h9 := HRL.out; have h10 := HL.out.exc; simp only [List.length_append, List.length_nil, singleL, doubleL, subjL, List.length_map]; omega)
   have HXL := Aside0.mk (show xs.length + rs.length ≤ 16777216 by rw [hxs]; have h0 := HL.out.acts; have h1 := HL.out.subs; have h2 := HL.out.roles; have h3 := HL.out.objs; have h4 := HL.out.grps; have h5 := HL.out.mem; have h6 := HL.out.inh; have h7 := HL.out.par; have h8 := HL.out.wit; have h9 := HRL.out; have h10 := HL.out.exc; simp only [List.length_append, List.length_nil, singleL, doubleL, subjL, List.length_map]; omega)
   rw [← hxs] at HV
   have HXS := Aside0.mk hxs
   clear hxs
   generalize v17 = v at HV
   obtain ⟨wr, hwr⟩ : ∃ wr, wr = W8 := ⟨_, rfl⟩
   rw [← hwr] at HV ⊢
   clear hwr
   refine start_ (n := 5) (S := fun w' => w'.cell? ⟨g3, 0, none⟩ = some v ∧ Stays w' gp #[.slice A0 d.acts.length c0, .slice A1 d.subs.length c1, .slice A2 d.roles.length c2, .slice A3 d.objs.length c3, .slice A4 d.grps.length c4, .slice A5 d.mem.length c5, .slice A6 d.inh.length c6, .slice A7 d.par.length c7, .slice A8 d.wit.length c8, .slice A9 d.rules.length c9, .slice A10 d.exc.length c10] 28) (ds := [3, 4]) #[false, false, false, false, false] (by kernel_rfl) rfl rfl (show wr.drew.cell? ⟨g3, 0, none⟩ = some v ∧ Stays wr.drew gp #[.slice A0 d.acts.length c0, .slice A1 d.subs.length c1, .slice A2 d.roles.length c2, .slice A3 d.objs.length c3, .slice A4 d.grps.length c4, .slice A5 d.mem.length c5, .slice A6 d.inh.length c6, .slice A7 d.par.length c7, .slice A8 d.wit.length c8, .slice A9 d.rules.length c9, .slice A10 d.exc.length c10] 28 from ⟨HV.out.cell, HV.out.box⟩) (fun hHeld => ?_)
   refine take_ (i := 0) (N := some 61) (v := ?_) (a' := ?_) #[true, false, false, false, false] rfl rfl (by kernel_rfl) (fun _ _ _ h => h) (Or.inl ⟨by rfl, ?_⟩) hHeld ?_ ?_
   rotate_left
   ·rintro w' ⟨s0, s1⟩
    go_simp
    with_reducible rfl
   rotate_left
   ·simp only [Act.put, List.setIfInBounds_toArray, List.set_cons_zero, List.set_cons_succ]
    rfl
   refine take_ (i := 1) (N := some 62) (v := .agg #[.slice A0 d.acts.length c0, .slice A1 d.subs.length c1, .slice A2 d.roles.length c2, .slice A3 d.objs.length c3, .slice A4 d.grps.length c4, .slice A5 d.mem.length c5, .slice A6 d.inh.length c6, .slice A7 d.par.length c7, .slice A8 d.wit.length c8, .slice A9 d.rules.length c9, .slice A10 d.exc.length c10]) (a' := ?_) #[true, true, false, false, false] rfl rfl (by kernel_rfl) (fun _ _ _ h => h) (yieldsIf_load_mid (by rfl) 28 (.tmp 1) rfl gp 0 rfl (#[.slice A0 d.acts.length c0, .slice A1 d.subs.length c1, .slice A2 d.roles.length c2, .slice A3 d.objs.length c3, .slice A4 d.grps.length c4, .slice A5 d.mem.length c5, .slice A6 d.inh.length c6, .slice A7 d.par.length c7, .slice A8 d.wit.length c8, .slice A9 d.rules.length c9, .slice A10 d.exc.length c10]).toList _ (fun w' hs => Stays.range (hs.2) _ rfl) Try.underlying28 rfl (by first | exact (by kernel_rfl) | (simp; exact (by kernel_rfl)))) hHeld ?_ ?_
   rotate_left
   ·simp only [Act.put, List.setIfInBounds_toArray, List.set_cons_zero, List.set_cons_succ]
    rfl
   refine one_ (i := 2) (N := some 63) #[true, true, true, false, false] rfl rfl (by kernel_rfl) (by decide) (fun K hK => ?_)
   refine goes_ Try.func18 (by kernel_rfl) rfl #[.agg #[.slice A0 d.acts.length c0, .slice A1 d.subs.length c1, .slice A2 d.roles.length c2, .slice A3 d.objs.length c3, .slice A4 d.grps.length c4, .slice A5 d.mem.length c5, .slice A6 d.inh.length c6, .slice A7 d.par.length c7, .slice A8 d.wit.length c8, .slice A9 d.rules.length c9, .slice A10 d.exc.length c10]] (by rfl) rfl rfl (by (try simp only [List.map_toArray, List.map_cons, List.map_nil]); first | done | rfl) ?_
   refine (rules_go (Pol.mk d A0 c0 A1 c1 A2 c2 A3 c3 A4 c4 A5 c5 A6 c6 A7 c7 A8 c8 A9 c9 A10 c10) KK rs _ (HIN.out wr.drew (below_drew HV.out.below)) HRS.out).mono ?_
   rintro e W1 ⟨v9, rfl, hS1, hb1⟩
   refine ⟨_, rfl, ?_⟩
   obtain ⟨B9, k9, e9⟩ := Kd.S_slice hS1
   subst e9
   have hb2 : Below wr.heap.size wr W1 := below_then (below_drew (Below.refl wr.heap.size wr)) (Nat.le_refl _) hb1
   have HB1 := Aside0.mk hb2
   have HS1 := Aside0.mk (show Kd.S k47 47 W1 wr.heap.size (fun _ => True) (.slice B9 rs.length k9) rs from hS1)
   have hh := And.intro (pw_cell_below hb2 HV.out.cell) (HV.out.box.below hb2)
   clear hS1 hb1 hb2
   refine hK.out _ _ hh (fun hHeld => ?_)
   clear hK K hh hHeld
   refine norm_ (a' := ?_) ?_ ?_
   rotate_left
   ·show Act.put _ (some 63) _ = _
    simp only [Act.put, List.setIfInBounds_toArray, List.set_cons_zero, List.set_cons_succ]
    rfl
   refine last_ (i := 3) (N := some 64) #[true, true, true, true, false] rfl rfl (by kernel_rfl) (by decide) (fun K hK => ?_)
   refine rows_step HV.out HNE.out HB1.out HS1.out HLM.out rfl (.tmp 61) (.tmp 63) rfl rfl rfl ?_
   intro v2 w2 x2 y2 HV2
   refine hK.out _ _ ?_
   clear hK K
   refine norm_ (a' := ?_) ?_ ?_
   rotate_left
   ·show Act.put _ (some 64) _ = _
    simp only [Act.put, List.setIfInBounds_toArray, List.set_cons_zero, List.set_cons_succ]
    rfl
   refine last_ (i := 4) (N := none) #[true, true, true, true, true] rfl rfl (by kernel_rfl) (by decide) (fun K hK => ?_)
   refine KBase.step_skip (w' := w2.setCell ⟨g3, 0, none⟩ v2) rfl rfl (by obtain ⟨A2, c2, e2⟩ := Kd.S_slice HV2.out.row; rw [e2] at *; go_simp) ?_
   refine hK.out _ _ ?_
   clear hK K x2 y2
   refine done_ (by kernel_rfl) ?_
   have HRI := Aside0.mk (show ∀ i, (((xs ++ rs) ++ (excL d.exc).take i).length + 1) * 128 ≤ 140737488355328 from fun i => by have h1 := HXL.out; have h2 : ((excL d.exc).take i).length ≤ (excL d.exc).length := List.length_take_le' _ _; have h3 := HL.out.exc; simp only [List.length_append, excL, List.length_map] at h2 ⊢; omega)
   clear HLM
   have HV := HV2
   clear HV2
   obtain ⟨wr, hwr⟩ : ∃ wr, wr = w2.setCell ⟨g3, 0, none⟩ v2 := ⟨_, rfl⟩
   rw [← hwr] at HV ⊢
   clear hwr
   have e10 := HV.out.box.cell 10
   simp only [List.getElem?_toArray, List.getElem?_cons_zero, List.getElem?_cons_succ] at e10
   go_upto_region 19 with fail
   clear e10
   go_loopw [68] (fun u68 wr => ∃ (i : Nat) (v : Value), i ≤ d.exc.length ∧ u68 = .int .i64 i ∧ Aside0 (Dv w gp #[.slice A0 d.acts.length c0, .slice A1 d.subs.length c1, .slice A2 d.roles.length c2, .slice A3 d.objs.length c3, .slice A4 d.grps.length c4, .slice A5 d.mem.length c5, .slice A6 d.inh.length c6, .slice A7 d.par.length c7, .slice A8 d.wit.length c8, .slice A9 d.rules.length c9, .slice A10 d.exc.length c10] g3 ((xs ++ rs) ++ (excL d.exc).take i) wr v)) (fun u68 _ => d.exc.length - (intOf u68).toNat)
   case atStart => exact ⟨0, v2, by omega, rfl, by rw [List.take_zero, List.append_nil]; exact HV⟩
   case round =>
    clear HV
    obtain ⟨i, v, hi, rfl, HV⟩ := hrel
    by_cases hlt : i < d.exc.length
    ·have hlt' : ((i : Int) < d.exc.length) := by omega
     obtain ⟨ad, rfl, hx0, hx1, hx2⟩ := at_T53 (show Kd.C k53 wr A10 d.exc.length d.exc from (HIN.out wr HV.out.below).h10) (i : Int) (by omega) (by omega)
     have hq : rd_T53 d.exc (i : Int) = d.exc[i] := by simp [rd_T53, List.getD_eq_getElem?_getD, hlt]
     rw [hq] at hx0 hx1 hx2
     obtain ⟨q, hqq⟩ : ∃ q, q = d.exc[i] := ⟨_, rfl⟩
     rw [← hqq] at hx0 hx1 hx2
     simp only [Int.toNat_natCast] at hx0 hx1 hx2
     have HNX := Aside0.mk (show (xs ++ rs) ++ (excL d.exc).take (i + 1) = ((xs ++ rs) ++ (excL d.exc).take i) ++ [(⟨12, 0, 0, ⟨q.f0, 0, 0⟩, ⟨q.f1, 0, 0⟩, [⟨q.f2, 0, 0⟩], false, 0, 0⟩ : S47)] by rw [List.append_assoc (xs ++ rs), hqq]; congr 1; exact take_snoc _ d.exc i hlt)
     have HLM := Aside0.mk (HRI.out i)
     clear hq hqq
     have HZ := Aside0.mk (show ∀ w : World, (zeroValue 53).run Try.prog w = .ok (.agg #[.string ⟨#[]⟩, .string ⟨#[]⟩, .string ⟨#[]⟩]) w from fun w => by kernel_rfl)
     go_upto_region 21 with (first | ((with_reducible refine gate_dst (N := 9) rfl ?_); refine wpList_alloc_store rfl rfl 53 9 (.tmp 71) rfl rfl rfl #[.string ⟨#[]⟩, .string ⟨#[]⟩, .string ⟨#[]⟩] #[.string q.f0, .string q.f1, .string q.f2] _ (HZ.out _) rfl (by kernel_rfl) rfl (by simp [Value.oneCell']) rfl rfl ?_))
     have hg6 : Stays (wr.alloc (.cells #[.string q.f0, .string q.f1, .string q.f2] 53)) wr.heap.size #[.string q.f0, .string q.f1, .string q.f2] 53 := heap_alloc_new wr (.cells #[.string q.f0, .string q.f1, .string q.f2] 53)
     have HV := Aside0.mk (HV.out.move (below_alloc (Below.refl _ wr) (.cells #[.string q.f0, .string q.f1, .string q.f2] 53)))
     obtain ⟨g6, hg6e⟩ : ∃ g6, g6 = wr.heap.size := ⟨_, rfl⟩
     rw [← hg6e] at hg6 ⊢
     have HG6 := Aside0.mk hg6
     generalize wr.alloc (.cells #[.string q.f0, .string q.f1, .string q.f2] 53) = wr at HV HG6 ⊢
     clear hg6 hg6e HZ hx0 hx1 hx2
     refine start_ (n := 14) (S := fun w' => w'.cell? ⟨g3, 0, none⟩ = some v ∧ w'.cell? ⟨g6, 0, none⟩ = some (.string q.f0) ∧ w'.cell? ⟨g6, 1, none⟩ = some (.string q.f1) ∧ w'.cell? ⟨g6, 2, none⟩ = some (.string q.f2)) (ds := [12, 13]) #[false, false, false, false, false, false, false, false, false, false, false, false, false, false] (by kernel_rfl) rfl rfl (show wr.drew.cell? ⟨g3, 0, none⟩ = some v ∧ wr.drew.cell? ⟨g6, 0, none⟩ = some (.string q.f0) ∧ wr.drew.cell? ⟨g6, 1, none⟩ = some (.string q.f1) ∧ wr.drew.cell? ⟨g6, 2, none⟩ = some (.string q.f2) from ⟨HV.out.cell, HG6.out.cell 0, HG6.out.cell 1, HG6.out.cell 2⟩) (fun hHeld => ?_)
     refine pure_ (i := 1) (N := some 73) (v := ?_) (a' := ?_) #[false, true, false, false, false, false, false, false, false, false, false, false, false, false] rfl rfl (by kernel_rfl) (fun _ _ _ h => h) (Or.inl ⟨by rfl, ?_⟩) ?_ ?_
     rotate_left
     ·intro w'
      go_simp
      with_reducible rfl
     rotate_left
     ·simp only [Act.put, List.setIfInBounds_toArray, List.set_cons_zero, List.set_cons_succ]
      rfl
     refine pure_ (i := 4) (N := some 76) (v := ?_) (a' := ?_) #[false, true, false, false, true, false, false, false, false, false, false, false, false, false] rfl rfl (by kernel_rfl) (fun _ _ _ h => h) (Or.inl ⟨by rfl, ?_⟩) ?_ ?_
     rotate_left
     ·intro w'
      go_simp
      with_reducible rfl
     rotate_left
     ·simp only [Act.put, List.setIfInBounds_toArray, List.set_cons_zero, List.set_cons_succ]
      rfl
     refine pure_ (i := 7) (N := some 79) (v := ?_) (a' := ?_) #[false, true, false, false, true, false, false, true, false, false, false, false, false, false] rfl rfl (by kernel_rfl) (fun _ _ _ h => h) (Or.inl ⟨by rfl, ?_⟩) ?_ ?_
     rotate_left
     ·intro w'
      go_simp
      with_reducible rfl
     rotate_left
     ·simp only [Act.put, List.setIfInBounds_toArray, List.set_cons_zero, List.set_cons_succ]
      rfl
     refine take_ (i := 0) (N := some 72) (v := ?_) (a' := ?_) #[true, true, false, false, true, false, false, true, false, false, false, false, false, false] rfl rfl (by kernel_rfl) (fun _ _ _ h => h) (Or.inl ⟨by rfl, ?_⟩) hHeld ?_ ?_
     rotate_left
     ·rintro w' ⟨s0, s1, s2, s3⟩
      go_simp
      with_reducible rfl
     rotate_left
     ·simp only [Act.put, List.setIfInBounds_toArray, List.set_cons_zero, List.set_cons_succ]
      rfl
     refine take_ (i := 2) (N := some 74) (v := ?_) (a' := ?_) #[true, true, true, false, true, false, false, true, false, false, false, false, false, false] rfl rfl (by kernel_rfl) (fun _ _ _ h => h) (Or.inl ⟨by rfl, ?_⟩) hHeld ?_ ?_
     rotate_left
     ·rintro w' ⟨s0, s1, s2, s3⟩
      go_simp
      with_reducible rfl
     rotate_left
     ·simp only [Act.put, List.setIfInBounds_toArray, List.set_cons_zero, List.set_cons_succ]
      rfl
     refine take_ (i := 5) (N := some 77) (v := ?_) (a' := ?_) #[true, true, true, false, true, true, false, true, false, false, false, false, false, false] rfl rfl (by kernel_rfl) (fun _ _ _ h => h) (Or.inl ⟨by rfl, ?_⟩) hHeld ?_ ?_
     rotate_left
     ·rintro w' ⟨s0, s1, s2, s3⟩
      go_simp
      with_reducible rfl
     rotate_left
     ·simp only [Act.put, List.setIfInBounds_toArray, List.set_cons_zero, List.set_cons_succ]
      rfl
     refine take_ (i := 8) (N := some 80) (v := ?_) (a' := ?_) #[true, true, true, false, true, true, false, true, true, false, false, false, false, false] rfl rfl (by kernel_rfl) (fun _ _ _ h => h) (Or.inl ⟨by rfl, ?_⟩) hHeld ?_ ?_
     rotate_left
     ·rintro w' ⟨s0, s1, s2, s3⟩
      go_simp
      with_reducible rfl
     rotate_left
     ·simp only [Act.put, List.setIfInBounds_toArray, List.set_cons_zero, List.set_cons_succ]
      rfl
     refine pure_ (i := 3) (N := some 75) (v := ?_) (a' := ?_) #[true, true, true, true, true, true, false, true, true, false, false, false, false, false] rfl rfl (by kernel_rfl) (fun _ _ _ h => h) (Or.inl ⟨by rfl, ?_⟩) ?_ ?_
     rotate_left
     ·intro w'
      go_simp
      with_reducible rfl
     rotate_left
     ·simp only [Act.put, List.setIfInBounds_toArray, List.set_cons_zero, List.set_cons_succ]
      rfl
     refine pure_ (i := 6) (N := some 78) (v := ?_) (a' := ?_) #[true, true, true, true, true, true, true, true, true, false, false, false, false, false] rfl rfl (by kernel_rfl) (fun _ _ _ h => h) (Or.inl ⟨by rfl, ?_⟩) ?_ ?_
     rotate_left
     ·intro w'
      go_simp
      with_reducible rfl
     rotate_left
     ·simp only [Act.put, List.setIfInBounds_toArray, List.set_cons_zero, List.set_cons_succ]
      rfl
     refine one_ (i := 9) (N := some 81) #[true, true, true, true, true, true, true, true, true, true, false, false, false, false] rfl rfl (by kernel_rfl) (by decide) (fun K hK => ?_)
     refine goes_ Try.func16 (by kernel_rfl) rfl #[.string q.f2] (by rfl) rfl rfl (by (try simp only [List.map_toArray, List.map_cons, List.map_nil]); first | done | rfl) ?_
     refine (one_go q.f2 _).mono ?_
     rintro e W1 ⟨v9, rfl, hR1, hb1⟩
     refine ⟨_, rfl, ?_⟩
     obtain ⟨A9, c9, e9⟩ := Kd.R_slice hR1
     replace e9 : v9 = .slice A9 1 c9 := e9
     subst e9
     have hb2 : Below wr.heap.size wr W1 := below_then (below_drew (Below.refl wr.heap.size wr)) (Nat.le_refl _) hb1
     have HB1 := Aside0.mk hb2
     have HR1 := Aside0.mk (show Kd.R k44 44 W1 wr.heap.size (fun _ => True) (.slice A9 1 c9) [⟨q.f2, 0, 0⟩] from hR1)
     have hh := And.intro (pw_cell_below hb2 HV.out.cell) (And.intro (pw_cell_below hb2 (HG6.out.cell 0)) (And.intro (pw_cell_below hb2 (HG6.out.cell 1)) (pw_cell_below hb2 (HG6.out.cell 2))))
     clear hR1 hb1 hb2
     refine hK.out _ _ hh (fun hHeld => ?_)
     clear hK K hh
     refine norm_ (a' := ?_) ?_ ?_
     rotate_left
     ·show Act.put _ (some 81) _ = _
      simp only [Act.put, List.setIfInBounds_toArray, List.set_cons_zero, List.set_cons_succ]
      rfl
     refine pure_ (i := 10) (N := some 82) (v := ?_) (a' := ?_) #[true, true, true, true, true, true, true, true, true, true, true, false, false, false] rfl rfl (by kernel_rfl) (fun _ _ _ h => h) (Or.inl ⟨by rfl, ?_⟩) ?_ ?_
     rotate_left
     ·intro w'
      go_simp
      with_reducible rfl
     rotate_left
     ·simp only [Act.put, List.setIfInBounds_toArray, List.set_cons_zero, List.set_cons_succ]
      rfl
     refine one_ (i := 11) (N := some 83) #[true, true, true, true, true, true, true, true, true, true, true, true, false, false] rfl rfl (by kernel_rfl) (by decide) (fun K hK => ?_)
     refine step_run (w' := W1.alloc (.cells #[.int .i8 12, .int .i64 0, .int .i64 0, .string q.f0, .int .i64 0, .int .i64 0, .string q.f1, .int .i64 0, .int .i64 0, .slice A9 1 c9, .bool false, .int .i8 0, .float .f64 0] 47)) (v := .slice (some ⟨W1.heap.size, 0, none⟩) 1 1) rfl rfl (by go_simp) ?_
     have hba := below_alloc (Below.refl _ W1) (.cells #[.int .i8 12, .int .i64 0, .int .i64 0, .string q.f0, .int .i64 0, .int .i64 0, .string q.f1, .int .i64 0, .int .i64 0, .slice A9 1 c9, .bool false, .int .i8 0, .float .f64 0] 47)
     have hh := And.intro (pw_cell_below hba hHeld.1) (And.intro (pw_cell_below hba hHeld.2.1) (And.intro (pw_cell_below hba hHeld.2.2.1) (pw_cell_below hba hHeld.2.2.2)))
     clear hba
     clear hHeld
     refine hK.out _ _ hh (fun hHeld => ?_)
     clear hK K hh hHeld
     refine norm_ (a' := ?_) ?_ ?_
     rotate_left
     ·show Act.put _ (some 83) _ = _
      simp only [Act.put, List.setIfInBounds_toArray, List.set_cons_zero, List.set_cons_succ]
      rfl
     refine last_ (i := 12) (N := some 84) #[true, true, true, true, true, true, true, true, true, true, true, true, true, false] rfl rfl (by kernel_rfl) (by decide) (fun K hK => ?_)
     refine app_step HV.out HNE.out HB1.out (⟨12, 0, 0, ⟨q.f0, 0, 0⟩, ⟨q.f1, 0, 0⟩, [⟨q.f2, 0, 0⟩], false, 0, 0⟩ : S47) HR1.out HLM.out rfl (.tmp 72) (.tmp 83) rfl rfl rfl [.int .i8 12, .int .i64 0, .int .i64 0, .string q.f0, .int .i64 0, .int .i64 0, .string q.f1, .int .i64 0, .int .i64 0, .slice A9 1 c9, .bool false, .int .i8 0, .float .f64 0] rfl ?_
     intro v2 w2 x2 y2 HV2
     refine hK.out _ _ ?_
     clear hK K
     refine norm_ (a' := ?_) ?_ ?_
     rotate_left
     ·show Act.put _ (some 84) _ = _
      simp only [Act.put, List.setIfInBounds_toArray, List.set_cons_zero, List.set_cons_succ]
      rfl
     refine last_ (i := 13) (N := none) #[true, true, true, true, true, true, true, true, true, true, true, true, true, true] rfl rfl (by kernel_rfl) (by decide) (fun K hK => ?_)
     refine KBase.step_skip (w' := w2.setCell ⟨g3, 0, none⟩ v2) rfl rfl (by obtain ⟨A2, c2, e2⟩ := Kd.S_slice HV2.out.row; rw [e2] at *; go_simp) ?_
     refine hK.out _ _ ?_
     clear hK K x2 y2
     refine done_ (by kernel_rfl) ?_
     rw [← HNX.out] at HV2
     go_wp2
     exact round_end hlt (by have := HL.out.exc; omega) (fun hq => ⟨i + 1, v2, by omega, hq, HV2⟩)
    ·have hil : i = d.exc.length := by omega
     have hlt' : ¬ ((i : Int) < d.exc.length) := by omega
     have hfull : (excL d.exc).take i = excL d.exc := List.take_of_length_le (by unfold excL; rw [List.length_map]; omega)
     rw [hfull] at HV
     have hcv := HV.out.cell
     clear hfull hlt hi
     go_wp2
     go_ret
     exact ⟨v, rfl, by have h := HV.out.row; rw [HXS.out] at h; exact h, HV.out.below⟩
end Go.Proofs.Ytacggjhgdkkclaa.KDecls
