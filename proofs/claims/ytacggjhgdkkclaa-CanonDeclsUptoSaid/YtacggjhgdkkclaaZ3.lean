/- Of this session's texts, what the row uses: KRoom. -/
import Derived.Test.YtacggjhgdkkclaaZ2
/- gatehouselaw05.roomy, walked. -/
namespace Go.Proofs.Ytacggjhgdkkclaa.KRoom
open Go.RowKit Go.Proofs.YtacggjhgdkkclaaW.PrintWords Go.Proofs.YtacggjhgdkkclaaW.PrintLast Go.Proofs.YtacggjhgdkkclaaW.PrintMore Go.Maps
open Go.Proofs.Ytacggjhgdkkclaa Go.Proofs.Ytacggjhgdkkclaa.PG Go.Proofs.YtacggjhgdkkclaaF Go.Proofs.Ytacggjhgdkkclaa.KBase Go.Proofs.Ytacggjhgdkkclaa.KApp Go.Proofs.Ytacggjhgdkkclaa.KRoomB
set_option linter.unusedSimpArgs false
attribute [local go_sem high] run_feq run_fne run_flt_lt run_flt_le run_flt_gt run_flt_ge
abbrev e0 : ByteArray := ⟨#[]⟩
abbrev qV (v0 v1 v2 v3 v4 v5 v6 v7 v8 v9 v10 : Value) : Array Value := #[v0, v1, v2, v3, v4, v5, v6, v7, v8, v9, v10]
abbrev nil : Value := .slice none 0 0
theorem z28 (w : World) : (zeroValue 28).run Try.prog w = .ok (.agg #[.slice none 0 0, .slice none 0 0, .slice none 0 0, .slice none 0 0, .slice none 0 0, .slice none 0 0, .slice none 0 0, .slice none 0 0, .slice none 0 0, .slice none 0 0, .slice none 0 0]) w := by kernel_rfl
theorem z33 (w : World) : (zeroValue 33).run Try.prog w = .ok (.agg #[.slice none 0 0, .slice none 0 0, .slice none 0 0, .slice none 0 0, .slice none 0 0, .slice none 0 0, .slice none 0 0, .slice none 0 0, .slice none 0 0, .slice none 0 0, .slice none 0 0, .slice none 0 0, .slice none 0 0, .slice none 0 0, .slice none 0 0, .slice none 0 0, .slice none 0 0, .slice none 0 0, .slice none 0 0, .slice none 0 0, .slice none 0 0, .slice none 0 0, .slice none 0 0]) w := by kernel_rfl
theorem i28 : (Try.prog.info? 28).map (·.size) = some 11 := by kernel_rfl
theorem i33 : (Try.prog.info? 33).map (·.size) = some 23 := by kernel_rfl
structure Lens (d : PolD) : Prop where
 acts : d.acts.length ≤ 1048576
 subs : d.subs.length ≤ 1048576
 roles : d.roles.length ≤ 1048576
 objs : d.objs.length ≤ 1048576
 grps : d.grps.length ≤ 1048576
 mem : d.mem.length ≤ 1048576
 inh : d.inh.length ≤ 1048576
 par : d.par.length ≤ 1048576
 wit : d.wit.length ≤ 1048576
 rules : d.rules.length ≤ 1048576
 exc : d.exc.length ≤ 1048576
 each : ∀ r ∈ d.rules, r.f3.length ≤ 1048576
theorem info51 : (Try.prog.info? 51).map (fun i => (i.zero, i.size, i.bytes)) = some (some (.agg #[(.bool false), (.string ⟨#[]⟩), (.string ⟨#[]⟩), (.slice none 0 0), (.int .i8 0), (.float .f64 0)]), 6, 80) := by kernel_rfl
theorem info53 : (Try.prog.info? 53).map (fun i => (i.zero, i.size, i.bytes)) = some (some (.agg #[(.string ⟨#[]⟩), (.string ⟨#[]⟩), (.string ⟨#[]⟩)]), 3, 48) := by kernel_rfl
theorem z51 (w : World) : (zeroValue 51).run Try.prog w = .ok (.agg #[.bool false, .string ⟨#[]⟩, .string ⟨#[]⟩, .slice none 0 0, .int .i8 0, .float .f64 0]) w := by kernel_rfl
theorem wrap_nat (j : Nat) (h : j ≤ 4194304000) : wrap64 ((j : Int) + 1) = ((j + 1 : Nat) : Int) := by unfold wrap64; omega
theorem round_end {n j : Nat} {P : Prop} (h : j < n) (hn : j ≤ 4194304000) (hP : ∀ _ : Value.int .i64 (wrap64 ((j : Int) + 1)) = Value.int .i64 ((j + 1 : Nat) : Int), P) : P ∧ n - (intOf (Value.int .i64 (wrap64 ((j : Int) + 1)))).toNat < n - (intOf (Value.int .i64 (j : Int))).toNat := by
 refine ⟨hP (by rw [wrap_nat j hn]), ?_⟩
 rw [wrap_nat j hn]
 simp only [intOf]
 omega
theorem longer_go (A : Option Addr) (c : Nat) (l : List ByteArray) (w : World) (hC : Kd.C Kd.string w A l.length l) (hc : l.length ≤ c) (h : l.length ≤ 1048576) :
  Calls Try.prog 13 #[.slice A l.length c] w fun e w' => ∃ A' c', e = .returned (.slice A' (l.length + 1) c') ∧ Kd.R Kd.string 9 w' w.heap.size (fun _ => True) (.slice A' (l.length + 1) c') (l ++ [sh]) ∧ Below w.heap.size w w' :=
 (gatehouselaw05_longer.calls A c l (l ++ [sh]) w hC hc (by
  unfold gatehouselaw05_longer.f
  rw [if_pos (by simp; omega)]
  simp only [List.nil_append, Option.bind_some]
  rw [if_pos (by omega)])).mono (by
   rintro e w' ⟨v, rfl, hR, hb⟩
   obtain ⟨A', c', hv⟩ := Kd.R_slice hR
   rw [List.length_append, List.length_singleton] at hv
   subst hv
   exact ⟨A', c', rfl, hR, hb⟩)
theorem pairs_go (A : Option Addr) (c : Nat) (l : List S59) (w : World) (hC : Kd.C k59 w A l.length l) (hc : l.length ≤ c) (h : l.length ≤ 1048576) :
  Calls Try.prog 14 #[.slice A l.length c] w fun e w' => ∃ A' c', e = .returned (.slice A' (l.length + 1) c') ∧ Kd.R k59 59 w' w.heap.size (fun _ => True) (.slice A' (l.length + 1) c') (l ++ [⟨sh, e0⟩]) ∧ Below w.heap.size w w' :=
 (gatehouselaw05_pairs.calls A c l (l ++ [⟨sh, e0⟩]) w hC hc (by
  unfold gatehouselaw05_pairs.f
  rw [if_pos (by simp; omega)]
  simp only [List.nil_append, Option.bind_some]
  rw [if_pos (by omega)])).mono (by
   rintro e w' ⟨v, rfl, hR, hb⟩
   obtain ⟨A', c', hv⟩ := Kd.R_slice hR
   rw [List.length_append, List.length_singleton] at hv
   subst hv
   exact ⟨A', c', rfl, hR, hb⟩)
set_option maxHeartbeats 8000000 in
set_option maxRecDepth 100000 in
theorem roomy_calls (p : Pol) (w : World) (hp : p.In w) (hd : Lens p.d) :
  Calls Try.prog 5 #[.agg p.cells] w fun e w' => ∃ (d : PolD) (Ba : Option Addr) (ka : Nat) (C1 : Option Addr) (j1 : Nat) (Br : Option Addr) (kr : Nat) (Bo : Option Addr) (ko : Nat) (Bg : Option Addr) (kg : Nat) (B5 : Option Addr) (k5 : Nat) (B6 : Option Addr) (k6 : Nat) (B7 : Option Addr) (k7 : Nat) (B8 : Option Addr) (k8 : Nat) (C9 : Option Addr) (j9 : Nat) (C10 : Option Addr) (j10 : Nat) (Bl : Option Addr) (kl : Nat) (T : List TR), d = p.d ∧ e = .returned (.agg #[.slice Ba d.acts.length ka, .slice C1 d.subs.length j1, .slice Br d.roles.length kr, .slice Bo d.objs.length ko, .slice Bg d.grps.length kg, .slice B5 d.mem.length k5, .slice B6 d.inh.length k6, .slice B7 d.par.length k7, .slice B8 d.wit.length k8, .slice C9 d.rules.length j9, .slice C10 d.exc.length j10, .slice Ba (d.acts.length + 1) ka, .slice C1 (d.subs.length + 1) j1, .slice Br (d.roles.length + 1) kr, .slice Bo (d.objs.length + 1) ko, .slice Bg (d.grps.length + 1) kg, .slice B5 (d.mem.length + 1) k5, .slice B6 (d.inh.length + 1) k6, .slice B7 (d.par.length + 1) k7, .slice B8 (d.wit.length + 1) k8, .slice C9 (d.rules.length + 1) j9, .slice C10 (d.exc.length + 1) j10, .slice Bl d.rules.length kl]) ∧ T.map (fun x => x.1) = d.rules ∧ All [ent k53 53 w.heap.size (.slice C10 (d.exc.length + 1) j10) (d.exc ++ ([⟨sh, e0, e0⟩] : List S53)), ent (Kd.raw 6) 51 w.heap.size (.slice C9 (d.rules.length + 1) j9) (T.map rcell ++ ([[Value.bool false, .string sh, .string e0, .slice none 0 0, .int .i8 0, .float .f64 0]] : List (List Value))), ent (Kd.raw 1) 22 w.heap.size (.slice Bl d.rules.length kl) (T.map lcell), entEach w.heap.size T, ent k59 59 w.heap.size (.slice B8 (d.wit.length + 1) k8) (d.wit ++ ([⟨sh, e0⟩] : List S59)), ent k59 59 w.heap.size (.slice B7 (d.par.length + 1) k7) (d.par ++ ([⟨sh, e0⟩] : List S59)), ent k59 59 w.heap.size (.slice B6 (d.inh.length + 1) k6) (d.inh ++ ([⟨sh, e0⟩] : List S59)), ent k59 59 w.heap.size (.slice B5 (d.mem.length + 1) k5) (d.mem ++ ([⟨sh, e0⟩] : List S59)), ent k42 42 w.heap.size (.slice C1 (d.subs.length + 1) j1) (d.subs ++ ([⟨sh, 0⟩] : List S42)), ent Kd.string 9 w.heap.size (.slice Bg (d.grps.length + 1) kg) (d.grps ++ [sh]), ent Kd.string 9 w.heap.size (.slice Bo (d.objs.length + 1) ko) (d.objs ++ [sh]), ent Kd.string 9 w.heap.size (.slice Br (d.roles.length + 1) kr) (d.roles ++ [sh]), ent Kd.string 9 w.heap.size (.slice Ba (d.acts.length + 1) ka) (d.acts ++ [sh])] w' ∧ Below w.heap.size w w' := by
 obtain ⟨d, A0, c0, A1, c1, A2, c2, A3, c3, A4, c4, A5, c5, A6, c6, A7, c7, A8, c8, A9, c9, A10, c10⟩ := p
 have HP := Aside0.mk hp
 have HK := Aside0.mk (show Lens d from hd)
 clear hp hd
 have hst : Stays ((w.alloc (.cells #[.slice A0 d.acts.length c0, .slice A1 d.subs.length c1, .slice A2 d.roles.length c2, .slice A3 d.objs.length c3, .slice A4 d.grps.length c4, .slice A5 d.mem.length c5, .slice A6 d.inh.length c6, .slice A7 d.par.length c7, .slice A8 d.wit.length c8, .slice A9 d.rules.length c9, .slice A10 d.exc.length c10] 28)).alloc (.cells #[.slice none 0 0, .slice none 0 0, .slice none 0 0, .slice none 0 0, .slice none 0 0, .slice none 0 0, .slice none 0 0, .slice none 0 0, .slice none 0 0, .slice none 0 0, .slice none 0 0, .slice none 0 0, .slice none 0 0, .slice none 0 0, .slice none 0 0, .slice none 0 0, .slice none 0 0, .slice none 0 0, .slice none 0 0, .slice none 0 0, .slice none 0 0, .slice none 0 0, .slice none 0 0] 33)) w.heap.size #[.slice A0 d.acts.length c0, .slice A1 d.subs.length c1, .slice A2 d.roles.length c2, .slice A3 d.objs.length c3, .slice A4 d.grps.length c4, .slice A5 d.mem.length c5, .slice A6 d.inh.length c6, .slice A7 d.par.length c7, .slice A8 d.wit.length c8, .slice A9 d.rules.length c9, .slice A10 d.exc.length c10] 28 := Stays.below (heap_alloc_new w _) (below_alloc (Below.refl _ _) _)
 have hsv : Stays ((w.alloc (.cells #[.slice A0 d.acts.length c0, .slice A1 d.subs.length c1, .slice A2 d.roles.length c2, .slice A3 d.objs.length c3, .slice A4 d.grps.length c4, .slice A5 d.mem.length c5, .slice A6 d.inh.length c6, .slice A7 d.par.length c7, .slice A8 d.wit.length c8, .slice A9 d.rules.length c9, .slice A10 d.exc.length c10] 28)).alloc (.cells #[.slice none 0 0, .slice none 0 0, .slice none 0 0, .slice none 0 0, .slice none 0 0, .slice none 0 0, .slice none 0 0, .slice none 0 0, .slice none 0 0, .slice none 0 0, .slice none 0 0, .slice none 0 0, .slice none 0 0, .slice none 0 0, .slice none 0 0, .slice none 0 0, .slice none 0 0, .slice none 0 0, .slice none 0 0, .slice none 0 0, .slice none 0 0, .slice none 0 0, .slice none 0 0] 33)) (w.heap.size + 1) #[.slice none 0 0, .slice none 0 0, .slice none 0 0, .slice none 0 0, .slice none 0 0, .slice none 0 0, .slice none 0 0, .slice none 0 0, .slice none 0 0, .slice none 0 0, .slice none 0 0, .slice none 0 0, .slice none 0 0, .slice none 0 0, .slice none 0 0, .slice none 0 0, .slice none 0 0, .slice none 0 0, .slice none 0 0, .slice none 0 0, .slice none 0 0, .slice none 0 0, .slice none 0 0] 33 := by
  have h := heap_alloc_new (w.alloc (.cells #[.slice A0 d.acts.length c0, .slice A1 d.subs.length c1, .slice A2 d.roles.length c2, .slice A3 d.objs.length c3, .slice A4 d.grps.length c4, .slice A5 d.mem.length c5, .slice A6 d.inh.length c6, .slice A7 d.par.length c7, .slice A8 d.wit.length c8, .slice A9 d.rules.length c9, .slice A10 d.exc.length c10] 28)) (.cells #[.slice none 0 0, .slice none 0 0, .slice none 0 0, .slice none 0 0, .slice none 0 0, .slice none 0 0, .slice none 0 0, .slice none 0 0, .slice none 0 0, .slice none 0 0, .slice none 0 0, .slice none 0 0, .slice none 0 0, .slice none 0 0, .slice none 0 0, .slice none 0 0, .slice none 0 0, .slice none 0 0, .slice none 0 0, .slice none 0 0, .slice none 0 0, .slice none 0 0, .slice none 0 0] 33)
  rw [World.size_alloc] at h
  exact h
 have hb0 : Below w.heap.size w ((w.alloc (.cells #[.slice A0 d.acts.length c0, .slice A1 d.subs.length c1, .slice A2 d.roles.length c2, .slice A3 d.objs.length c3, .slice A4 d.grps.length c4, .slice A5 d.mem.length c5, .slice A6 d.inh.length c6, .slice A7 d.par.length c7, .slice A8 d.wit.length c8, .slice A9 d.rules.length c9, .slice A10 d.exc.length c10] 28)).alloc (.cells #[.slice none 0 0, .slice none 0 0, .slice none 0 0, .slice none 0 0, .slice none 0 0, .slice none 0 0, .slice none 0 0, .slice none 0 0, .slice none 0 0, .slice none 0 0, .slice none 0 0, .slice none 0 0, .slice none 0 0, .slice none 0 0, .slice none 0 0, .slice none 0 0, .slice none 0 0, .slice none 0 0, .slice none 0 0, .slice none 0 0, .slice none 0 0, .slice none 0 0, .slice none 0 0] 33)) := below_alloc (below_alloc (Below.refl _ _) _) _
 have hz := z33
 unfold Pol.cells
 go_enter Try.func5, Try.ntmps5
 go_upto_region 1 with fail
 clear hz
 obtain ⟨W0, hW0⟩ : ∃ W0, W0 = (w.alloc (.cells #[.slice A0 d.acts.length c0, .slice A1 d.subs.length c1, .slice A2 d.roles.length c2, .slice A3 d.objs.length c3, .slice A4 d.grps.length c4, .slice A5 d.mem.length c5, .slice A6 d.inh.length c6, .slice A7 d.par.length c7, .slice A8 d.wit.length c8, .slice A9 d.rules.length c9, .slice A10 d.exc.length c10] 28)).alloc (.cells #[.slice none 0 0, .slice none 0 0, .slice none 0 0, .slice none 0 0, .slice none 0 0, .slice none 0 0, .slice none 0 0, .slice none 0 0, .slice none 0 0, .slice none 0 0, .slice none 0 0, .slice none 0 0, .slice none 0 0, .slice none 0 0, .slice none 0 0, .slice none 0 0, .slice none 0 0, .slice none 0 0, .slice none 0 0, .slice none 0 0, .slice none 0 0, .slice none 0 0, .slice none 0 0] 33) := ⟨_, rfl⟩
 obtain ⟨gv, hgv⟩ : ∃ gv, gv = w.heap.size + 1 := ⟨_, rfl⟩
 rw [← hW0] at hst hsv hb0 ⊢
 rw [← hgv] at hsv ⊢
 have HGV := Aside0.mk (show w.heap.size < gv by omega)
 have HB0 := Aside0.mk hst
 have HV0 := Aside0.mk hsv
 have HW0 := Aside0.mk hb0
 clear hst hsv hb0 hW0 hgv
 go_cut [3] (fun v3 wx => ∃ (g3 : Nat) (Ba : Option Addr) (ka : Nat) (Br : Option Addr) (kr : Nat) (Bo : Option Addr) (ko : Nat) (Bg : Option Addr) (kg : Nat), v3 = .pointer (some ⟨g3, 0, none⟩) ∧ Aside0 (gv < g3) ∧ Aside0 (Rm w w.heap.size gv g3 #[.slice A0 d.acts.length c0, .slice A1 d.subs.length c1, .slice A2 d.roles.length c2, .slice A3 d.objs.length c3, .slice A4 d.grps.length c4, .slice A5 d.mem.length c5, .slice A6 d.inh.length c6, .slice A7 d.par.length c7, .slice A8 d.wit.length c8, .slice A9 d.rules.length c9, .slice A10 d.exc.length c10] #[.slice none 0 0, .slice none 0 0, .slice none 0 0, .slice none 0 0, .slice none 0 0, .slice none 0 0, .slice none 0 0, .slice none 0 0, .slice none 0 0, .slice none 0 0, .slice none 0 0, .slice none 0 0, .slice none 0 0, .slice none 0 0, .slice none 0 0, .slice none 0 0, .slice none 0 0, .slice none 0 0, .slice none 0 0, .slice none 0 0, .slice none 0 0, .slice none 0 0, .slice none 0 0] (qV (.slice Ba (d.acts.length + 1) ka) nil (.slice Br (d.roles.length + 1) kr) (.slice Bo (d.objs.length + 1) ko) (.slice Bg (d.grps.length + 1) kg) nil nil nil nil nil nil) [ent Kd.string 9 w.heap.size (.slice Bg (d.grps.length + 1) kg) (d.grps ++ [sh]), ent Kd.string 9 w.heap.size (.slice Bo (d.objs.length + 1) ko) (d.objs ++ [sh]), ent Kd.string 9 w.heap.size (.slice Br (d.roles.length + 1) kr) (d.roles ++ [sh]), ent Kd.string 9 w.heap.size (.slice Ba (d.acts.length + 1) ka) (d.acts ++ [sh])] wx))
 case first =>
  have HB1 := Aside0.mk (below_drew (Below.refl W0.heap.size W0))
  refine start_ (n := 15) (S := fun w' => w'.cell? ⟨w.heap.size, 0, none⟩ = some (.slice A0 d.acts.length c0) ∧ w'.cell? ⟨w.heap.size, 2, none⟩ = some (.slice A2 d.roles.length c2) ∧ w'.cell? ⟨w.heap.size, 3, none⟩ = some (.slice A3 d.objs.length c3) ∧ w'.cell? ⟨w.heap.size, 4, none⟩ = some (.slice A4 d.grps.length c4)) (ds := [14]) #[false, false, false, false, false, false, false, false, false, false, false, false, false, false, false] (by kernel_rfl) rfl rfl ⟨HB0.out.cell 0, HB0.out.cell 2, HB0.out.cell 3, HB0.out.cell 4⟩ (fun hHeld => ?_)
  obtain ⟨W1, hW1⟩ : ∃ W1, W1 = W0.drew := ⟨_, rfl⟩
  rw [← hW1] at hHeld HB1 ⊢
  have HA := Aside0.mk (All.nil W1)
  clear hW1
  refine pure_ (i := 0) (N := some 9) (v := ?_) (a' := ?_) #[true, false, false, false, false, false, false, false, false, false, false, false, false, false, false] rfl rfl (by kernel_rfl) (fun _ _ _ h => h) (Or.inl ⟨by rfl, ?_⟩) ?_ ?_
  rotate_left
  ·intro w'
   go_simp
   with_reducible rfl
  rotate_left
  ·simp only [Act.put, List.setIfInBounds_toArray, List.set_cons_zero, List.set_cons_succ]
   rfl
  refine take_ (i := 1) (N := some 10) (v := ?_) (a' := ?_) #[true, true, false, false, false, false, false, false, false, false, false, false, false, false, false] rfl rfl (by kernel_rfl) (fun _ _ _ h => h) (Or.inl ⟨by rfl, ?_⟩) hHeld ?_ ?_
  rotate_left
  ·rintro w' ⟨s0, s1, s2, s3⟩
   go_simp
   with_reducible rfl
  rotate_left
  ·simp only [Act.put, List.setIfInBounds_toArray, List.set_cons_zero, List.set_cons_succ]
   rfl
  refine pure_ (i := 3) (N := some 12) (v := ?_) (a' := ?_) #[true, true, false, true, false, false, false, false, false, false, false, false, false, false, false] rfl rfl (by kernel_rfl) (fun _ _ _ h => h) (Or.inl ⟨by rfl, ?_⟩) ?_ ?_
  rotate_left
  ·intro w'
   go_simp
   with_reducible rfl
  rotate_left
  ·simp only [Act.put, List.setIfInBounds_toArray, List.set_cons_zero, List.set_cons_succ]
   rfl
  refine take_ (i := 4) (N := some 13) (v := ?_) (a' := ?_) #[true, true, false, true, true, false, false, false, false, false, false, false, false, false, false] rfl rfl (by kernel_rfl) (fun _ _ _ h => h) (Or.inl ⟨by rfl, ?_⟩) hHeld ?_ ?_
  rotate_left
  ·rintro w' ⟨s0, s1, s2, s3⟩
   go_simp
   with_reducible rfl
  rotate_left
  ·simp only [Act.put, List.setIfInBounds_toArray, List.set_cons_zero, List.set_cons_succ]
   rfl
  refine pure_ (i := 6) (N := some 15) (v := ?_) (a' := ?_) #[true, true, false, true, true, false, true, false, false, false, false, false, false, false, false] rfl rfl (by kernel_rfl) (fun _ _ _ h => h) (Or.inl ⟨by rfl, ?_⟩) ?_ ?_
  rotate_left
  ·intro w'
   go_simp
   with_reducible rfl
  rotate_left
  ·simp only [Act.put, List.setIfInBounds_toArray, List.set_cons_zero, List.set_cons_succ]
   rfl
  refine take_ (i := 7) (N := some 16) (v := ?_) (a' := ?_) #[true, true, false, true, true, false, true, true, false, false, false, false, false, false, false] rfl rfl (by kernel_rfl) (fun _ _ _ h => h) (Or.inl ⟨by rfl, ?_⟩) hHeld ?_ ?_
  rotate_left
  ·rintro w' ⟨s0, s1, s2, s3⟩
   go_simp
   with_reducible rfl
  rotate_left
  ·simp only [Act.put, List.setIfInBounds_toArray, List.set_cons_zero, List.set_cons_succ]
   rfl
  refine pure_ (i := 9) (N := some 18) (v := ?_) (a' := ?_) #[true, true, false, true, true, false, true, true, false, true, false, false, false, false, false] rfl rfl (by kernel_rfl) (fun _ _ _ h => h) (Or.inl ⟨by rfl, ?_⟩) ?_ ?_
  rotate_left
  ·intro w'
   go_simp
   with_reducible rfl
  rotate_left
  ·simp only [Act.put, List.setIfInBounds_toArray, List.set_cons_zero, List.set_cons_succ]
   rfl
  refine take_ (i := 10) (N := some 19) (v := ?_) (a' := ?_) #[true, true, false, true, true, false, true, true, false, true, true, false, false, false, false] rfl rfl (by kernel_rfl) (fun _ _ _ h => h) (Or.inl ⟨by rfl, ?_⟩) hHeld ?_ ?_
  rotate_left
  ·rintro w' ⟨s0, s1, s2, s3⟩
   go_simp
   with_reducible rfl
  rotate_left
  ·simp only [Act.put, List.setIfInBounds_toArray, List.set_cons_zero, List.set_cons_succ]
   rfl
  refine two_ (i := 2) (j := 13) (Ni := some 11) (Nj := some 3) #[true, true, true, true, true, false, true, true, false, true, true, false, false, false, false] #[true, true, false, true, true, false, true, true, false, true, true, false, false, true, false] rfl rfl rfl rfl (by kernel_rfl) (by decide) (by decide) (fun K hK => ?_) (fun K hK => ?_)
  ·refine goes_ Try.func13 (by kernel_rfl) rfl #[.slice A0 d.acts.length c0] (by rfl) rfl rfl (by (try simp only [List.map_toArray, List.map_cons, List.map_nil]); first | done | rfl) ?_
   refine (longer_go A0 c0 d.acts _ ((HP.out.below (below_then HW0.out HW0.out.size HB1.out)).h0) HP.out.l0 HK.out.acts).mono ?_
   rintro e w2 ⟨Ba, ka, rfl, hR, hb⟩
   refine ⟨_, rfl, ?_⟩
   have HB2 := Aside0.mk (below_then HB1.out HB1.out.size hb)
   have HA := Aside0.mk (All.cons (E := ent Kd.string 9 w.heap.size (.slice Ba (d.acts.length + 1) ka) (d.acts ++ [sh])) (Kd.R_lower hR (Nat.le_trans HW0.out.size HB1.out.size)) (HA.out.below hb))
   clear hR hb
   refine hK.out _ _ ⟨pw_cell_below HB2.out (HB0.out.cell 0), pw_cell_below HB2.out (HB0.out.cell 2), pw_cell_below HB2.out (HB0.out.cell 3), pw_cell_below HB2.out (HB0.out.cell 4)⟩ (fun hHeld => ?_)
   clear hK K
   refine norm_ (a' := ?_) ?_ ?_
   rotate_left
   ·show Act.put _ (some 11) _ = _
    simp only [Act.put, List.setIfInBounds_toArray, List.set_cons_zero, List.set_cons_succ]
    rfl
   refine two_ (i := 5) (j := 13) (Ni := some 14) (Nj := some 3) #[true, true, true, true, true, true, true, true, false, true, true, false, false, false, false] #[true, true, true, true, true, false, true, true, false, true, true, false, false, true, false] rfl rfl rfl rfl (by kernel_rfl) (by decide) (by decide) (fun K hK => ?_) (fun K hK => ?_)
   ·refine goes_ Try.func13 (by kernel_rfl) rfl #[.slice A2 d.roles.length c2] (by rfl) rfl rfl (by (try simp only [List.map_toArray, List.map_cons, List.map_nil]); first | done | rfl) ?_
    refine (longer_go A2 c2 d.roles _ ((HP.out.below (below_then HW0.out HW0.out.size HB2.out)).h2) HP.out.l2 HK.out.roles).mono ?_
    rintro e w5 ⟨Br, kr, rfl, hR, hb⟩
    refine ⟨_, rfl, ?_⟩
    have HB3 := Aside0.mk (below_then HB2.out HB2.out.size hb)
    have HA := Aside0.mk (All.cons (E := ent Kd.string 9 w.heap.size (.slice Br (d.roles.length + 1) kr) (d.roles ++ [sh])) (Kd.R_lower hR (Nat.le_trans HW0.out.size HB2.out.size)) (HA.out.below hb))
    clear hR hb
    refine hK.out _ _ ⟨pw_cell_below HB3.out (HB0.out.cell 0), pw_cell_below HB3.out (HB0.out.cell 2), pw_cell_below HB3.out (HB0.out.cell 3), pw_cell_below HB3.out (HB0.out.cell 4)⟩ (fun hHeld => ?_)
    clear hK K
    refine norm_ (a' := ?_) ?_ ?_
    rotate_left
    ·show Act.put _ (some 14) _ = _
     simp only [Act.put, List.setIfInBounds_toArray, List.set_cons_zero, List.set_cons_succ]
     rfl
    refine two_ (i := 8) (j := 13) (Ni := some 17) (Nj := some 3) #[true, true, true, true, true, true, true, true, true, true, true, false, false, false, false] #[true, true, true, true, true, true, true, true, false, true, true, false, false, true, false] rfl rfl rfl rfl (by kernel_rfl) (by decide) (by decide) (fun K hK => ?_) (fun K hK => ?_)
    ·refine goes_ Try.func13 (by kernel_rfl) rfl #[.slice A3 d.objs.length c3] (by rfl) rfl rfl (by (try simp only [List.map_toArray, List.map_cons, List.map_nil]); first | done | rfl) ?_
     refine (longer_go A3 c3 d.objs _ ((HP.out.below (below_then HW0.out HW0.out.size HB3.out)).h3) HP.out.l3 HK.out.objs).mono ?_
     rintro e w8 ⟨Bo, ko, rfl, hR, hb⟩
     refine ⟨_, rfl, ?_⟩
     have HB4 := Aside0.mk (below_then HB3.out HB3.out.size hb)
     have HA := Aside0.mk (All.cons (E := ent Kd.string 9 w.heap.size (.slice Bo (d.objs.length + 1) ko) (d.objs ++ [sh])) (Kd.R_lower hR (Nat.le_trans HW0.out.size HB3.out.size)) (HA.out.below hb))
     clear hR hb
     refine hK.out _ _ ⟨pw_cell_below HB4.out (HB0.out.cell 0), pw_cell_below HB4.out (HB0.out.cell 2), pw_cell_below HB4.out (HB0.out.cell 3), pw_cell_below HB4.out (HB0.out.cell 4)⟩ (fun hHeld => ?_)
     clear hK K
     refine norm_ (a' := ?_) ?_ ?_
     rotate_left
     ·show Act.put _ (some 17) _ = _
      simp only [Act.put, List.setIfInBounds_toArray, List.set_cons_zero, List.set_cons_succ]
      rfl
     refine two_ (i := 11) (j := 13) (Ni := some 20) (Nj := some 3) #[true, true, true, true, true, true, true, true, true, true, true, true, false, false, false] #[true, true, true, true, true, true, true, true, true, true, true, false, false, true, false] rfl rfl rfl rfl (by kernel_rfl) (by decide) (by decide) (fun K hK => ?_) (fun K hK => ?_)
     ·refine goes_ Try.func13 (by kernel_rfl) rfl #[.slice A4 d.grps.length c4] (by rfl) rfl rfl (by (try simp only [List.map_toArray, List.map_cons, List.map_nil]); first | done | rfl) ?_
      refine (longer_go A4 c4 d.grps _ ((HP.out.below (below_then HW0.out HW0.out.size HB4.out)).h4) HP.out.l4 HK.out.grps).mono ?_
      rintro e w11 ⟨Bg, kg, rfl, hR, hb⟩
      refine ⟨_, rfl, ?_⟩
      have HB5 := Aside0.mk (below_then HB4.out HB4.out.size hb)
      have HA := Aside0.mk (All.cons (E := ent Kd.string 9 w.heap.size (.slice Bg (d.grps.length + 1) kg) (d.grps ++ [sh])) (Kd.R_lower hR (Nat.le_trans HW0.out.size HB4.out.size)) (HA.out.below hb))
      clear hR hb
      refine hK.out _ _ ⟨pw_cell_below HB5.out (HB0.out.cell 0), pw_cell_below HB5.out (HB0.out.cell 2), pw_cell_below HB5.out (HB0.out.cell 3), pw_cell_below HB5.out (HB0.out.cell 4)⟩ (fun hHeld => ?_)
      clear hK K
      refine norm_ (a' := ?_) ?_ ?_
      rotate_left
      ·show Act.put _ (some 20) _ = _
       simp only [Act.put, List.setIfInBounds_toArray, List.set_cons_zero, List.set_cons_succ]
       rfl
      refine pure_ (i := 12) (N := some 21) (v := ?_) (a' := ?_) #[true, true, true, true, true, true, true, true, true, true, true, true, true, false, false] rfl rfl (by kernel_rfl) (fun _ _ _ h => h) (Or.inl ⟨by rfl, ?_⟩) ?_ ?_
      rotate_left
      ·intro w'
       have hz := z28
       go_simp
       with_reducible rfl
      rotate_left
      ·simp only [Act.put, List.setIfInBounds_toArray, List.set_cons_zero, List.set_cons_succ]
       rfl
      refine one_ (i := 13) (N := some 3) #[true, true, true, true, true, true, true, true, true, true, true, true, true, true, false] rfl rfl (by kernel_rfl) (by decide) (fun K hK => ?_)
      refine KBase.step_run (w' := World.alloc w11 (.cells #[.slice none 0 0, .slice none 0 0, .slice none 0 0, .slice none 0 0, .slice none 0 0, .slice none 0 0, .slice none 0 0, .slice none 0 0, .slice none 0 0, .slice none 0 0, .slice none 0 0] 28)) (v := .pointer (some ⟨World.heap w11 |>.size, 0, none⟩)) rfl rfl (by have hz := z28; go_simp) ?_
      have hs3 : Stays (World.alloc w11 (.cells #[.slice none 0 0, .slice none 0 0, .slice none 0 0, .slice none 0 0, .slice none 0 0, .slice none 0 0, .slice none 0 0, .slice none 0 0, .slice none 0 0, .slice none 0 0, .slice none 0 0] 28)) (World.heap w11).size #[.slice none 0 0, .slice none 0 0, .slice none 0 0, .slice none 0 0, .slice none 0 0, .slice none 0 0, .slice none 0 0, .slice none 0 0, .slice none 0 0, .slice none 0 0, .slice none 0 0] 28 := heap_alloc_new w11 _
      have hb := below_alloc (Below.refl _ w11) (.cells #[.slice none 0 0, .slice none 0 0, .slice none 0 0, .slice none 0 0, .slice none 0 0, .slice none 0 0, .slice none 0 0, .slice none 0 0, .slice none 0 0, .slice none 0 0, .slice none 0 0] 28)
      have HB6 := Aside0.mk (below_then HB5.out HB5.out.size hb)
      have hle : W0.heap.size ≤ (World.heap w11).size := HB5.out.size
      have HA := Aside0.mk (HA.out.below hb)
      obtain ⟨W7, hW7⟩ : ∃ W7, W7 = World.alloc w11 (.cells #[.slice none 0 0, .slice none 0 0, .slice none 0 0, .slice none 0 0, .slice none 0 0, .slice none 0 0, .slice none 0 0, .slice none 0 0, .slice none 0 0, .slice none 0 0, .slice none 0 0] 28) := ⟨_, rfl⟩
      obtain ⟨g3, hg3⟩ : ∃ g3, g3 = (World.heap w11).size := ⟨_, rfl⟩
      rw [← hW7] at hs3 HB6 HA ⊢
      rw [← hg3] at hs3 hle ⊢
      have HS3 := Aside0.mk hs3
      have HLE := Aside0.mk hle
      have HG3 := Aside0.mk (show gv < g3 by have := (Array.getElem?_eq_some_iff.1 HV0.out).1; omega)
      clear hs3 hb hle hW7 hg3
      refine hK.out _ _ ⟨pw_cell_below HB6.out (HB0.out.cell 0), pw_cell_below HB6.out (HB0.out.cell 2), pw_cell_below HB6.out (HB0.out.cell 3), pw_cell_below HB6.out (HB0.out.cell 4)⟩ (fun hHeld => ?_)
      clear hK K
      refine norm_ (a' := ?_) ?_ ?_
      rotate_left
      ·show Act.put _ (some 3) _ = _
       simp only [Act.put, List.setIfInBounds_toArray, List.set_cons_zero, List.set_cons_succ]
       rfl
      refine last_ (i := 14) (N := none) #[true, true, true, true, true, true, true, true, true, true, true, true, true, true, true] rfl rfl (by kernel_rfl) (by decide) (fun K hK => ?_)
      have hst := run_storeAt_mid (P := Try.prog) W7 g3 0 28 (qV (.slice Ba (d.acts.length + 1) ka) nil (.slice Br (d.roles.length + 1) kr) (.slice Bo (d.objs.length + 1) ko) (.slice Bg (d.grps.length + 1) kg) nil nil nil nil nil nil) (Stays.there (cs := #[.slice none 0 0, .slice none 0 0, .slice none 0 0, .slice none 0 0, .slice none 0 0, .slice none 0 0, .slice none 0 0, .slice none 0 0, .slice none 0 0, .slice none 0 0, .slice none 0 0]) HS3.out) i28 (by simp [qV, nil, Value.oneCell'])
      refine KBase.step_skip (w' := World.setCells W7 g3 0 (qV (.slice Ba (d.acts.length + 1) ka) nil (.slice Br (d.roles.length + 1) kr) (.slice Bo (d.objs.length + 1) ko) (.slice Bg (d.grps.length + 1) kg) nil nil nil nil nil nil).toList) rfl rfl (by first | (simp [execOp, Act.eval, hst]; done) | (show Sem.run Try.prog _ _ = _; simp only [execOp, Act.eval]; simp; rw [hst]; rfl)) ?_
      refine hK.out _ _ ?_
      clear hK K hst
      refine done_ (by kernel_rfl) ?_
      have hS3 := setCells_var (vs := (qV (.slice Ba (d.acts.length + 1) ka) nil (.slice Br (d.roles.length + 1) kr) (.slice Bo (d.objs.length + 1) ko) (.slice Bg (d.grps.length + 1) kg) nil nil nil nil nil nil)) HS3.out rfl
      have hbb := setCells_below HB6.out HLE.out (qV (.slice Ba (d.acts.length + 1) ka) nil (.slice Br (d.roles.length + 1) kr) (.slice Bo (d.objs.length + 1) ko) (.slice Bg (d.grps.length + 1) kg) nil nil nil nil nil nil).toList
      have hAL := HA.out.only (Only.sets HS3.out (qV (.slice Ba (d.acts.length + 1) ka) nil (.slice Br (d.roles.length + 1) kr) (.slice Bo (d.objs.length + 1) ko) (.slice Bg (d.grps.length + 1) kg) nil nil nil nil nil nil).toList) rfl
      have HF := Aside0.mk (Rm.mk (g1 := w.heap.size) (gv := gv) (HB0.out.below hbb) (HV0.out.below hbb) hS3 hAL (below_then HW0.out HW0.out.size hbb) (by have := HG3.out; have := HGV.out; omega) (by have := HG3.out; have := HGV.out; omega))
      clear hS3 hbb hAL hHeld
      go_wp2
      go_meet
      exact ⟨g3, _, _, _, _, _, _, _, _, rfl, HG3, HF⟩
     ·refine KBase.step_run (w' := World.alloc w8 (.cells #[.slice none 0 0, .slice none 0 0, .slice none 0 0, .slice none 0 0, .slice none 0 0, .slice none 0 0, .slice none 0 0, .slice none 0 0, .slice none 0 0, .slice none 0 0, .slice none 0 0] 28)) (v := .pointer (some ⟨World.heap w8 |>.size, 0, none⟩)) rfl rfl (by have hz := z28; go_simp) ?_
      have hs3 : Stays (World.alloc w8 (.cells #[.slice none 0 0, .slice none 0 0, .slice none 0 0, .slice none 0 0, .slice none 0 0, .slice none 0 0, .slice none 0 0, .slice none 0 0, .slice none 0 0, .slice none 0 0, .slice none 0 0] 28)) (World.heap w8).size #[.slice none 0 0, .slice none 0 0, .slice none 0 0, .slice none 0 0, .slice none 0 0, .slice none 0 0, .slice none 0 0, .slice none 0 0, .slice none 0 0, .slice none 0 0, .slice none 0 0] 28 := heap_alloc_new w8 _
      have hb := below_alloc (Below.refl _ w8) (.cells #[.slice none 0 0, .slice none 0 0, .slice none 0 0, .slice none 0 0, .slice none 0 0, .slice none 0 0, .slice none 0 0, .slice none 0 0, .slice none 0 0, .slice none 0 0, .slice none 0 0] 28)
      have HB5 := Aside0.mk (below_then HB4.out HB4.out.size hb)
      have hle : W0.heap.size ≤ (World.heap w8).size := HB4.out.size
      have HA := Aside0.mk (HA.out.below hb)
      obtain ⟨W7, hW7⟩ : ∃ W7, W7 = World.alloc w8 (.cells #[.slice none 0 0, .slice none 0 0, .slice none 0 0, .slice none 0 0, .slice none 0 0, .slice none 0 0, .slice none 0 0, .slice none 0 0, .slice none 0 0, .slice none 0 0, .slice none 0 0] 28) := ⟨_, rfl⟩
      obtain ⟨g3, hg3⟩ : ∃ g3, g3 = (World.heap w8).size := ⟨_, rfl⟩
      rw [← hW7] at hs3 HB5 HA ⊢
      rw [← hg3] at hs3 hle ⊢
      have HS3 := Aside0.mk hs3
      have HLE := Aside0.mk hle
      have HG3 := Aside0.mk (show gv < g3 by have := (Array.getElem?_eq_some_iff.1 HV0.out).1; omega)
      clear hs3 hb hle hW7 hg3
      refine hK.out _ _ ⟨pw_cell_below HB5.out (HB0.out.cell 0), pw_cell_below HB5.out (HB0.out.cell 2), pw_cell_below HB5.out (HB0.out.cell 3), pw_cell_below HB5.out (HB0.out.cell 4)⟩ (fun hHeld => ?_)
      clear hK K
      refine norm_ (a' := ?_) ?_ ?_
      rotate_left
      ·show Act.put _ (some 3) _ = _
       simp only [Act.put, List.setIfInBounds_toArray, List.set_cons_zero, List.set_cons_succ]
       rfl
      refine one_ (i := 11) (N := some 20) #[true, true, true, true, true, true, true, true, true, true, true, true, false, true, false] rfl rfl (by kernel_rfl) (by decide) (fun K hK => ?_)
      refine goes_ Try.func13 (by kernel_rfl) rfl #[.slice A4 d.grps.length c4] (by rfl) rfl rfl (by (try simp only [List.map_toArray, List.map_cons, List.map_nil]); first | done | rfl) ?_
      refine (longer_go A4 c4 d.grps _ ((HP.out.below (below_then HW0.out HW0.out.size HB5.out)).h4) HP.out.l4 HK.out.grps).mono ?_
      rintro e w11 ⟨Bg, kg, rfl, hR, hb⟩
      refine ⟨_, rfl, ?_⟩
      have HB6 := Aside0.mk (below_then HB5.out HB5.out.size hb)
      have HS3 := Aside0.mk (HS3.out.below hb)
      have HA := Aside0.mk (All.cons (E := ent Kd.string 9 w.heap.size (.slice Bg (d.grps.length + 1) kg) (d.grps ++ [sh])) (Kd.R_lower hR (Nat.le_trans HW0.out.size HB5.out.size)) (HA.out.below hb))
      clear hR hb
      refine hK.out _ _ ⟨pw_cell_below HB6.out (HB0.out.cell 0), pw_cell_below HB6.out (HB0.out.cell 2), pw_cell_below HB6.out (HB0.out.cell 3), pw_cell_below HB6.out (HB0.out.cell 4)⟩ (fun hHeld => ?_)
      clear hK K
      refine norm_ (a' := ?_) ?_ ?_
      rotate_left
      ·show Act.put _ (some 20) _ = _
       simp only [Act.put, List.setIfInBounds_toArray, List.set_cons_zero, List.set_cons_succ]
       rfl
      refine pure_ (i := 12) (N := some 21) (v := ?_) (a' := ?_) #[true, true, true, true, true, true, true, true, true, true, true, true, true, true, false] rfl rfl (by kernel_rfl) (fun _ _ _ h => h) (Or.inl ⟨by rfl, ?_⟩) ?_ ?_
      rotate_left
      ·intro w'
       have hz := z28
       go_simp
       with_reducible rfl
      rotate_left
      ·simp only [Act.put, List.setIfInBounds_toArray, List.set_cons_zero, List.set_cons_succ]
       rfl
      refine last_ (i := 14) (N := none) #[true, true, true, true, true, true, true, true, true, true, true, true, true, true, true] rfl rfl (by kernel_rfl) (by decide) (fun K hK => ?_)
      have hst := run_storeAt_mid (P := Try.prog) w11 g3 0 28 (qV (.slice Ba (d.acts.length + 1) ka) nil (.slice Br (d.roles.length + 1) kr) (.slice Bo (d.objs.length + 1) ko) (.slice Bg (d.grps.length + 1) kg) nil nil nil nil nil nil) (Stays.there (cs := #[.slice none 0 0, .slice none 0 0, .slice none 0 0, .slice none 0 0, .slice none 0 0, .slice none 0 0, .slice none 0 0, .slice none 0 0, .slice none 0 0, .slice none 0 0, .slice none 0 0]) HS3.out) i28 (by simp [qV, nil, Value.oneCell'])
      refine KBase.step_skip (w' := World.setCells w11 g3 0 (qV (.slice Ba (d.acts.length + 1) ka) nil (.slice Br (d.roles.length + 1) kr) (.slice Bo (d.objs.length + 1) ko) (.slice Bg (d.grps.length + 1) kg) nil nil nil nil nil nil).toList) rfl rfl (by first | (simp [execOp, Act.eval, hst]; done) | (show Sem.run Try.prog _ _ = _; simp only [execOp, Act.eval]; simp; rw [hst]; rfl)) ?_
      refine hK.out _ _ ?_
      clear hK K hst
      refine done_ (by kernel_rfl) ?_
      have hS3 := setCells_var (vs := (qV (.slice Ba (d.acts.length + 1) ka) nil (.slice Br (d.roles.length + 1) kr) (.slice Bo (d.objs.length + 1) ko) (.slice Bg (d.grps.length + 1) kg) nil nil nil nil nil nil)) HS3.out rfl
      have hbb := setCells_below HB6.out HLE.out (qV (.slice Ba (d.acts.length + 1) ka) nil (.slice Br (d.roles.length + 1) kr) (.slice Bo (d.objs.length + 1) ko) (.slice Bg (d.grps.length + 1) kg) nil nil nil nil nil nil).toList
      have hAL := HA.out.only (Only.sets HS3.out (qV (.slice Ba (d.acts.length + 1) ka) nil (.slice Br (d.roles.length + 1) kr) (.slice Bo (d.objs.length + 1) ko) (.slice Bg (d.grps.length + 1) kg) nil nil nil nil nil nil).toList) rfl
      have HF := Aside0.mk (Rm.mk (g1 := w.heap.size) (gv := gv) (HB0.out.below hbb) (HV0.out.below hbb) hS3 hAL (below_then HW0.out HW0.out.size hbb) (by have := HG3.out; have := HGV.out; omega) (by have := HG3.out; have := HGV.out; omega))
      clear hS3 hbb hAL hHeld
      go_wp2
      go_meet
      exact ⟨g3, _, _, _, _, _, _, _, _, rfl, HG3, HF⟩
    ·refine KBase.step_run (w' := World.alloc w5 (.cells #[.slice none 0 0, .slice none 0 0, .slice none 0 0, .slice none 0 0, .slice none 0 0, .slice none 0 0, .slice none 0 0, .slice none 0 0, .slice none 0 0, .slice none 0 0, .slice none 0 0] 28)) (v := .pointer (some ⟨World.heap w5 |>.size, 0, none⟩)) rfl rfl (by have hz := z28; go_simp) ?_
     have hs3 : Stays (World.alloc w5 (.cells #[.slice none 0 0, .slice none 0 0, .slice none 0 0, .slice none 0 0, .slice none 0 0, .slice none 0 0, .slice none 0 0, .slice none 0 0, .slice none 0 0, .slice none 0 0, .slice none 0 0] 28)) (World.heap w5).size #[.slice none 0 0, .slice none 0 0, .slice none 0 0, .slice none 0 0, .slice none 0 0, .slice none 0 0, .slice none 0 0, .slice none 0 0, .slice none 0 0, .slice none 0 0, .slice none 0 0] 28 := heap_alloc_new w5 _
     have hb := below_alloc (Below.refl _ w5) (.cells #[.slice none 0 0, .slice none 0 0, .slice none 0 0, .slice none 0 0, .slice none 0 0, .slice none 0 0, .slice none 0 0, .slice none 0 0, .slice none 0 0, .slice none 0 0, .slice none 0 0] 28)
     have HB4 := Aside0.mk (below_then HB3.out HB3.out.size hb)
     have hle : W0.heap.size ≤ (World.heap w5).size := HB3.out.size
     have HA := Aside0.mk (HA.out.below hb)
     obtain ⟨W7, hW7⟩ : ∃ W7, W7 = World.alloc w5 (.cells #[.slice none 0 0, .slice none 0 0, .slice none 0 0, .slice none 0 0, .slice none 0 0, .slice none 0 0, .slice none 0 0, .slice none 0 0, .slice none 0 0, .slice none 0 0, .slice none 0 0] 28) := ⟨_, rfl⟩
     obtain ⟨g3, hg3⟩ : ∃ g3, g3 = (World.heap w5).size := ⟨_, rfl⟩
     rw [← hW7] at hs3 HB4 HA ⊢
     rw [← hg3] at hs3 hle ⊢
     have HS3 := Aside0.mk hs3
     have HLE := Aside0.mk hle
     have HG3 := Aside0.mk (show gv < g3 by have := (Array.getElem?_eq_some_iff.1 HV0.out).1; omega)
     clear hs3 hb hle hW7 hg3
     refine hK.out _ _ ⟨pw_cell_below HB4.out (HB0.out.cell 0), pw_cell_below HB4.out (HB0.out.cell 2), pw_cell_below HB4.out (HB0.out.cell 3), pw_cell_below HB4.out (HB0.out.cell 4)⟩ (fun hHeld => ?_)
     clear hK K
     refine norm_ (a' := ?_) ?_ ?_
     rotate_left
     ·show Act.put _ (some 3) _ = _
      simp only [Act.put, List.setIfInBounds_toArray, List.set_cons_zero, List.set_cons_succ]
      rfl
     refine one_ (i := 8) (N := some 17) #[true, true, true, true, true, true, true, true, true, true, true, false, false, true, false] rfl rfl (by kernel_rfl) (by decide) (fun K hK => ?_)
     refine goes_ Try.func13 (by kernel_rfl) rfl #[.slice A3 d.objs.length c3] (by rfl) rfl rfl (by (try simp only [List.map_toArray, List.map_cons, List.map_nil]); first | done | rfl) ?_
     refine (longer_go A3 c3 d.objs _ ((HP.out.below (below_then HW0.out HW0.out.size HB4.out)).h3) HP.out.l3 HK.out.objs).mono ?_
     rintro e w8 ⟨Bo, ko, rfl, hR, hb⟩
     refine ⟨_, rfl, ?_⟩
     have HB5 := Aside0.mk (below_then HB4.out HB4.out.size hb)
     have HS3 := Aside0.mk (HS3.out.below hb)
     have HA := Aside0.mk (All.cons (E := ent Kd.string 9 w.heap.size (.slice Bo (d.objs.length + 1) ko) (d.objs ++ [sh])) (Kd.R_lower hR (Nat.le_trans HW0.out.size HB4.out.size)) (HA.out.below hb))
     clear hR hb
     refine hK.out _ _ ⟨pw_cell_below HB5.out (HB0.out.cell 0), pw_cell_below HB5.out (HB0.out.cell 2), pw_cell_below HB5.out (HB0.out.cell 3), pw_cell_below HB5.out (HB0.out.cell 4)⟩ (fun hHeld => ?_)
     clear hK K
     refine norm_ (a' := ?_) ?_ ?_
     rotate_left
     ·show Act.put _ (some 17) _ = _
      simp only [Act.put, List.setIfInBounds_toArray, List.set_cons_zero, List.set_cons_succ]
      rfl
     refine one_ (i := 11) (N := some 20) #[true, true, true, true, true, true, true, true, true, true, true, true, false, true, false] rfl rfl (by kernel_rfl) (by decide) (fun K hK => ?_)
     refine goes_ Try.func13 (by kernel_rfl) rfl #[.slice A4 d.grps.length c4] (by rfl) rfl rfl (by (try simp only [List.map_toArray, List.map_cons, List.map_nil]); first | done | rfl) ?_
     refine (longer_go A4 c4 d.grps _ ((HP.out.below (below_then HW0.out HW0.out.size HB5.out)).h4) HP.out.l4 HK.out.grps).mono ?_
     rintro e w11 ⟨Bg, kg, rfl, hR, hb⟩
     refine ⟨_, rfl, ?_⟩
     have HB6 := Aside0.mk (below_then HB5.out HB5.out.size hb)
     have HS3 := Aside0.mk (HS3.out.below hb)
     have HA := Aside0.mk (All.cons (E := ent Kd.string 9 w.heap.size (.slice Bg (d.grps.length + 1) kg) (d.grps ++ [sh])) (Kd.R_lower hR (Nat.le_trans HW0.out.size HB5.out.size)) (HA.out.below hb))
     clear hR hb
     refine hK.out _ _ ⟨pw_cell_below HB6.out (HB0.out.cell 0), pw_cell_below HB6.out (HB0.out.cell 2), pw_cell_below HB6.out (HB0.out.cell 3), pw_cell_below HB6.out (HB0.out.cell 4)⟩ (fun hHeld => ?_)
     clear hK K
     refine norm_ (a' := ?_) ?_ ?_
     rotate_left
     ·show Act.put _ (some 20) _ = _
      simp only [Act.put, List.setIfInBounds_toArray, List.set_cons_zero, List.set_cons_succ]
      rfl
     refine pure_ (i := 12) (N := some 21) (v := ?_) (a' := ?_) #[true, true, true, true, true, true, true, true, true, true, true, true, true, true, false] rfl rfl (by kernel_rfl) (fun _ _ _ h => h) (Or.inl ⟨by rfl, ?_⟩) ?_ ?_
     rotate_left
     ·intro w'
      have hz := z28
      go_simp
      with_reducible rfl
     rotate_left
     ·simp only [Act.put, List.setIfInBounds_toArray, List.set_cons_zero, List.set_cons_succ]
      rfl
     refine last_ (i := 14) (N := none) #[true, true, true, true, true, true, true, true, true, true, true, true, true, true, true] rfl rfl (by kernel_rfl) (by decide) (fun K hK => ?_)
     have hst := run_storeAt_mid (P := Try.prog) w11 g3 0 28 (qV (.slice Ba (d.acts.length + 1) ka) nil (.slice Br (d.roles.length + 1) kr) (.slice Bo (d.objs.length + 1) ko) (.slice Bg (d.grps.length + 1) kg) nil nil nil nil nil nil) (Stays.there (cs := #[.slice none 0 0, .slice none 0 0, .slice none 0 0, .slice none 0 0, .slice none 0 0, .slice none 0 0, .slice none 0 0, .slice none 0 0, .slice none 0 0, .slice none 0 0, .slice none 0 0]) HS3.out) i28 (by simp [qV, nil, Value.oneCell'])
     refine KBase.step_skip (w' := World.setCells w11 g3 0 (qV (.slice Ba (d.acts.length + 1) ka) nil (.slice Br (d.roles.length + 1) kr) (.slice Bo (d.objs.length + 1) ko) (.slice Bg (d.grps.length + 1) kg) nil nil nil nil nil nil).toList) rfl rfl (by first | (simp [execOp, Act.eval, hst]; done) | (show Sem.run Try.prog _ _ = _; simp only [execOp, Act.eval]; simp; rw [hst]; rfl)) ?_
     refine hK.out _ _ ?_
     clear hK K hst
     refine done_ (by kernel_rfl) ?_
     have hS3 := setCells_var (vs := (qV (.slice Ba (d.acts.length + 1) ka) nil (.slice Br (d.roles.length + 1) kr) (.slice Bo (d.objs.length + 1) ko) (.slice Bg (d.grps.length + 1) kg) nil nil nil nil nil nil)) HS3.out rfl
     have hbb := setCells_below HB6.out HLE.out (qV (.slice Ba (d.acts.length + 1) ka) nil (.slice Br (d.roles.length + 1) kr) (.slice Bo (d.objs.length + 1) ko) (.slice Bg (d.grps.length + 1) kg) nil nil nil nil nil nil).toList
     have hAL := HA.out.only (Only.sets HS3.out (qV (.slice Ba (d.acts.length + 1) ka) nil (.slice Br (d.roles.length + 1) kr) (.slice Bo (d.objs.length + 1) ko) (.slice Bg (d.grps.length + 1) kg) nil nil nil nil nil nil).toList) rfl
     have HF := Aside0.mk (Rm.mk (g1 := w.heap.size) (gv := gv) (HB0.out.below hbb) (HV0.out.below hbb) hS3 hAL (below_then HW0.out HW0.out.size hbb) (by have := HG3.out; have := HGV.out; omega) (by have := HG3.out; have := HGV.out; omega))
     clear hS3 hbb hAL hHeld
     go_wp2
     go_meet
     exact ⟨g3, _, _, _, _, _, _, _, _, rfl, HG3, HF⟩
   ·refine KBase.step_run (w' := World.alloc w2 (.cells #[.slice none 0 0, .slice none 0 0, .slice none 0 0, .slice none 0 0, .slice none 0 0, .slice none 0 0, .slice none 0 0, .slice none 0 0, .slice none 0 0, .slice none 0 0, .slice none 0 0] 28)) (v := .pointer (some ⟨World.heap w2 |>.size, 0, none⟩)) rfl rfl (by have hz := z28; go_simp) ?_
    have hs3 : Stays (World.alloc w2 (.cells #[.slice none 0 0, .slice none 0 0, .slice none 0 0, .slice none 0 0, .slice none 0 0, .slice none 0 0, .slice none 0 0, .slice none 0 0, .slice none 0 0, .slice none 0 0, .slice none 0 0] 28)) (World.heap w2).size #[.slice none 0 0, .slice none 0 0, .slice none 0 0, .slice none 0 0, .slice none 0 0, .slice none 0 0, .slice none 0 0, .slice none 0 0, .slice none 0 0, .slice none 0 0, .slice none 0 0] 28 := heap_alloc_new w2 _
    have hb := below_alloc (Below.refl _ w2) (.cells #[.slice none 0 0, .slice none 0 0, .slice none 0 0, .slice none 0 0, .slice none 0 0, .slice none 0 0, .slice none 0 0, .slice none 0 0, .slice none 0 0, .slice none 0 0, .slice none 0 0] 28)
    have HB3 := Aside0.mk (below_then HB2.out HB2.out.size hb)
    have hle : W0.heap.size ≤ (World.heap w2).size := HB2.out.size
    have HA := Aside0.mk (HA.out.below hb)
    obtain ⟨W7, hW7⟩ : ∃ W7, W7 = World.alloc w2 (.cells #[.slice none 0 0, .slice none 0 0, .slice none 0 0, .slice none 0 0, .slice none 0 0, .slice none 0 0, .slice none 0 0, .slice none 0 0, .slice none 0 0, .slice none 0 0, .slice none 0 0] 28) := ⟨_, rfl⟩
    obtain ⟨g3, hg3⟩ : ∃ g3, g3 = (World.heap w2).size := ⟨_, rfl⟩
    rw [← hW7] at hs3 HB3 HA ⊢
    rw [← hg3] at hs3 hle ⊢
    have HS3 := Aside0.mk hs3
    have HLE := Aside0.mk hle
    have HG3 := Aside0.mk (show gv < g3 by have := (Array.getElem?_eq_some_iff.1 HV0.out).1; omega)
    clear hs3 hb hle hW7 hg3
    refine hK.out _ _ ⟨pw_cell_below HB3.out (HB0.out.cell 0), pw_cell_below HB3.out (HB0.out.cell 2), pw_cell_below HB3.out (HB0.out.cell 3), pw_cell_below HB3.out (HB0.out.cell 4)⟩ (fun hHeld => ?_)
    clear hK K
    refine norm_ (a' := ?_) ?_ ?_
    rotate_left
    ·show Act.put _ (some 3) _ = _
     simp only [Act.put, List.setIfInBounds_toArray, List.set_cons_zero, List.set_cons_succ]
     rfl
    refine one_ (i := 5) (N := some 14) #[true, true, true, true, true, true, true, true, false, true, true, false, false, true, false] rfl rfl (by kernel_rfl) (by decide) (fun K hK => ?_)
    refine goes_ Try.func13 (by kernel_rfl) rfl #[.slice A2 d.roles.length c2] (by rfl) rfl rfl (by (try simp only [List.map_toArray, List.map_cons, List.map_nil]); first | done | rfl) ?_
    refine (longer_go A2 c2 d.roles _ ((HP.out.below (below_then HW0.out HW0.out.size HB3.out)).h2) HP.out.l2 HK.out.roles).mono ?_
    rintro e w5 ⟨Br, kr, rfl, hR, hb⟩
    refine ⟨_, rfl, ?_⟩
    have HB4 := Aside0.mk (below_then HB3.out HB3.out.size hb)
    have HS3 := Aside0.mk (HS3.out.below hb)
    have HA := Aside0.mk (All.cons (E := ent Kd.string 9 w.heap.size (.slice Br (d.roles.length + 1) kr) (d.roles ++ [sh])) (Kd.R_lower hR (Nat.le_trans HW0.out.size HB3.out.size)) (HA.out.below hb))
    clear hR hb
    refine hK.out _ _ ⟨pw_cell_below HB4.out (HB0.out.cell 0), pw_cell_below HB4.out (HB0.out.cell 2), pw_cell_below HB4.out (HB0.out.cell 3), pw_cell_below HB4.out (HB0.out.cell 4)⟩ (fun hHeld => ?_)
    clear hK K
    refine norm_ (a' := ?_) ?_ ?_
    rotate_left
    ·show Act.put _ (some 14) _ = _
     simp only [Act.put, List.setIfInBounds_toArray, List.set_cons_zero, List.set_cons_succ]
     rfl
    refine one_ (i := 8) (N := some 17) #[true, true, true, true, true, true, true, true, true, true, true, false, false, true, false] rfl rfl (by kernel_rfl) (by decide) (fun K hK => ?_)
    refine goes_ Try.func13 (by kernel_rfl) rfl #[.slice A3 d.objs.length c3] (by rfl) rfl rfl (by (try simp only [List.map_toArray, List.map_cons, List.map_nil]); first | done | rfl) ?_
    refine (longer_go A3 c3 d.objs _ ((HP.out.below (below_then HW0.out HW0.out.size HB4.out)).h3) HP.out.l3 HK.out.objs).mono ?_
    rintro e w8 ⟨Bo, ko, rfl, hR, hb⟩
    refine ⟨_, rfl, ?_⟩
    have HB5 := Aside0.mk (below_then HB4.out HB4.out.size hb)
    have HS3 := Aside0.mk (HS3.out.below hb)
    have HA := Aside0.mk (All.cons (E := ent Kd.string 9 w.heap.size (.slice Bo (d.objs.length + 1) ko) (d.objs ++ [sh])) (Kd.R_lower hR (Nat.le_trans HW0.out.size HB4.out.size)) (HA.out.below hb))
    clear hR hb
    refine hK.out _ _ ⟨pw_cell_below HB5.out (HB0.out.cell 0), pw_cell_below HB5.out (HB0.out.cell 2), pw_cell_below HB5.out (HB0.out.cell 3), pw_cell_below HB5.out (HB0.out.cell 4)⟩ (fun hHeld => ?_)
    clear hK K
    refine norm_ (a' := ?_) ?_ ?_
    rotate_left
    ·show Act.put _ (some 17) _ = _
     simp only [Act.put, List.setIfInBounds_toArray, List.set_cons_zero, List.set_cons_succ]
     rfl
    refine one_ (i := 11) (N := some 20) #[true, true, true, true, true, true, true, true, true, true, true, true, false, true, false] rfl rfl (by kernel_rfl) (by decide) (fun K hK => ?_)
    refine goes_ Try.func13 (by kernel_rfl) rfl #[.slice A4 d.grps.length c4] (by rfl) rfl rfl (by (try simp only [List.map_toArray, List.map_cons, List.map_nil]); first | done | rfl) ?_
    refine (longer_go A4 c4 d.grps _ ((HP.out.below (below_then HW0.out HW0.out.size HB5.out)).h4) HP.out.l4 HK.out.grps).mono ?_
    rintro e w11 ⟨Bg, kg, rfl, hR, hb⟩
    refine ⟨_, rfl, ?_⟩
    have HB6 := Aside0.mk (below_then HB5.out HB5.out.size hb)
    have HS3 := Aside0.mk (HS3.out.below hb)
    have HA := Aside0.mk (All.cons (E := ent Kd.string 9 w.heap.size (.slice Bg (d.grps.length + 1) kg) (d.grps ++ [sh])) (Kd.R_lower hR (Nat.le_trans HW0.out.size HB5.out.size)) (HA.out.below hb))
    clear hR hb
    refine hK.out _ _ ⟨pw_cell_below HB6.out (HB0.out.cell 0), pw_cell_below HB6.out (HB0.out.cell 2), pw_cell_below HB6.out (HB0.out.cell 3), pw_cell_below HB6.out (HB0.out.cell 4)⟩ (fun hHeld => ?_)
    clear hK K
    refine norm_ (a' := ?_) ?_ ?_
    rotate_left
    ·show Act.put _ (some 20) _ = _
     simp only [Act.put, List.setIfInBounds_toArray, List.set_cons_zero, List.set_cons_succ]
     rfl
    refine pure_ (i := 12) (N := some 21) (v := ?_) (a' := ?_) #[true, true, true, true, true, true, true, true, true, true, true, true, true, true, false] rfl rfl (by kernel_rfl) (fun _ _ _ h => h) (Or.inl ⟨by rfl, ?_⟩) ?_ ?_
    rotate_left
    ·intro w'
     have hz := z28
     go_simp
     with_reducible rfl
    rotate_left
    ·simp only [Act.put, List.setIfInBounds_toArray, List.set_cons_zero, List.set_cons_succ]
     rfl
    refine last_ (i := 14) (N := none) #[true, true, true, true, true, true, true, true, true, true, true, true, true, true, true] rfl rfl (by kernel_rfl) (by decide) (fun K hK => ?_)
    have hst := run_storeAt_mid (P := Try.prog) w11 g3 0 28 (qV (.slice Ba (d.acts.length + 1) ka) nil (.slice Br (d.roles.length + 1) kr) (.slice Bo (d.objs.length + 1) ko) (.slice Bg (d.grps.length + 1) kg) nil nil nil nil nil nil) (Stays.there (cs := #[.slice none 0 0, .slice none 0 0, .slice none 0 0, .slice none 0 0, .slice none 0 0, .slice none 0 0, .slice none 0 0, .slice none 0 0, .slice none 0 0, .slice none 0 0, .slice none 0 0]) HS3.out) i28 (by simp [qV, nil, Value.oneCell'])
    refine KBase.step_skip (w' := World.setCells w11 g3 0 (qV (.slice Ba (d.acts.length + 1) ka) nil (.slice Br (d.roles.length + 1) kr) (.slice Bo (d.objs.length + 1) ko) (.slice Bg (d.grps.length + 1) kg) nil nil nil nil nil nil).toList) rfl rfl (by first | (simp [execOp, Act.eval, hst]; done) | (show Sem.run Try.prog _ _ = _; simp only [execOp, Act.eval]; simp; rw [hst]; rfl)) ?_
    refine hK.out _ _ ?_
    clear hK K hst
    refine done_ (by kernel_rfl) ?_
    have hS3 := setCells_var (vs := (qV (.slice Ba (d.acts.length + 1) ka) nil (.slice Br (d.roles.length + 1) kr) (.slice Bo (d.objs.length + 1) ko) (.slice Bg (d.grps.length + 1) kg) nil nil nil nil nil nil)) HS3.out rfl
    have hbb := setCells_below HB6.out HLE.out (qV (.slice Ba (d.acts.length + 1) ka) nil (.slice Br (d.roles.length + 1) kr) (.slice Bo (d.objs.length + 1) ko) (.slice Bg (d.grps.length + 1) kg) nil nil nil nil nil nil).toList
    have hAL := HA.out.only (Only.sets HS3.out (qV (.slice Ba (d.acts.length + 1) ka) nil (.slice Br (d.roles.length + 1) kr) (.slice Bo (d.objs.length + 1) ko) (.slice Bg (d.grps.length + 1) kg) nil nil nil nil nil nil).toList) rfl
    have HF := Aside0.mk (Rm.mk (g1 := w.heap.size) (gv := gv) (HB0.out.below hbb) (HV0.out.below hbb) hS3 hAL (below_then HW0.out HW0.out.size hbb) (by have := HG3.out; have := HGV.out; omega) (by have := HG3.out; have := HGV.out; omega))
    clear hS3 hbb hAL hHeld
    go_wp2
    go_meet
    exact ⟨g3, _, _, _, _, _, _, _, _, rfl, HG3, HF⟩
  ·refine KBase.step_run (w' := World.alloc W1 (.cells #[.slice none 0 0, .slice none 0 0, .slice none 0 0, .slice none 0 0, .slice none 0 0, .slice none 0 0, .slice none 0 0, .slice none 0 0, .slice none 0 0, .slice none 0 0, .slice none 0 0] 28)) (v := .pointer (some ⟨World.heap W1 |>.size, 0, none⟩)) rfl rfl (by have hz := z28; go_simp) ?_
   have hs3 : Stays (World.alloc W1 (.cells #[.slice none 0 0, .slice none 0 0, .slice none 0 0, .slice none 0 0, .slice none 0 0, .slice none 0 0, .slice none 0 0, .slice none 0 0, .slice none 0 0, .slice none 0 0, .slice none 0 0] 28)) (World.heap W1).size #[.slice none 0 0, .slice none 0 0, .slice none 0 0, .slice none 0 0, .slice none 0 0, .slice none 0 0, .slice none 0 0, .slice none 0 0, .slice none 0 0, .slice none 0 0, .slice none 0 0] 28 := heap_alloc_new W1 _
   have hb := below_alloc (Below.refl _ W1) (.cells #[.slice none 0 0, .slice none 0 0, .slice none 0 0, .slice none 0 0, .slice none 0 0, .slice none 0 0, .slice none 0 0, .slice none 0 0, .slice none 0 0, .slice none 0 0, .slice none 0 0] 28)
   have HB2 := Aside0.mk (below_then HB1.out HB1.out.size hb)
   have hle : W0.heap.size ≤ (World.heap W1).size := HB1.out.size
   have HA := Aside0.mk (HA.out.below hb)
   obtain ⟨W7, hW7⟩ : ∃ W7, W7 = World.alloc W1 (.cells #[.slice none 0 0, .slice none 0 0, .slice none 0 0, .slice none 0 0, .slice none 0 0, .slice none 0 0, .slice none 0 0, .slice none 0 0, .slice none 0 0, .slice none 0 0, .slice none 0 0] 28) := ⟨_, rfl⟩
   obtain ⟨g3, hg3⟩ : ∃ g3, g3 = (World.heap W1).size := ⟨_, rfl⟩
   rw [← hW7] at hs3 HB2 HA ⊢
   rw [← hg3] at hs3 hle ⊢
   have HS3 := Aside0.mk hs3
   have HLE := Aside0.mk hle
   have HG3 := Aside0.mk (show gv < g3 by have := (Array.getElem?_eq_some_iff.1 HV0.out).1; omega)
   clear hs3 hb hle hW7 hg3
   refine hK.out _ _ ⟨pw_cell_below HB2.out (HB0.out.cell 0), pw_cell_below HB2.out (HB0.out.cell 2), pw_cell_below HB2.out (HB0.out.cell 3), pw_cell_below HB2.out (HB0.out.cell 4)⟩ (fun hHeld => ?_)
   clear hK K
   refine norm_ (a' := ?_) ?_ ?_
   rotate_left
   ·show Act.put _ (some 3) _ = _
    simp only [Act.put, List.setIfInBounds_toArray, List.set_cons_zero, List.set_cons_succ]
    rfl
   refine one_ (i := 2) (N := some 11) #[true, true, true, true, true, false, true, true, false, true, true, false, false, true, false] rfl rfl (by kernel_rfl) (by decide) (fun K hK => ?_)
   refine goes_ Try.func13 (by kernel_rfl) rfl #[.slice A0 d.acts.length c0] (by rfl) rfl rfl (by (try simp only [List.map_toArray, List.map_cons, List.map_nil]); first | done | rfl) ?_
   refine (longer_go A0 c0 d.acts _ ((HP.out.below (below_then HW0.out HW0.out.size HB2.out)).h0) HP.out.l0 HK.out.acts).mono ?_
   rintro e w2 ⟨Ba, ka, rfl, hR, hb⟩
   refine ⟨_, rfl, ?_⟩
   have HB3 := Aside0.mk (below_then HB2.out HB2.out.size hb)
   have HS3 := Aside0.mk (HS3.out.below hb)
   have HA := Aside0.mk (All.cons (E := ent Kd.string 9 w.heap.size (.slice Ba (d.acts.length + 1) ka) (d.acts ++ [sh])) (Kd.R_lower hR (Nat.le_trans HW0.out.size HB2.out.size)) (HA.out.below hb))
   clear hR hb
   refine hK.out _ _ ⟨pw_cell_below HB3.out (HB0.out.cell 0), pw_cell_below HB3.out (HB0.out.cell 2), pw_cell_below HB3.out (HB0.out.cell 3), pw_cell_below HB3.out (HB0.out.cell 4)⟩ (fun hHeld => ?_)
   clear hK K
   refine norm_ (a' := ?_) ?_ ?_
   rotate_left
   ·show Act.put _ (some 11) _ = _
    simp only [Act.put, List.setIfInBounds_toArray, List.set_cons_zero, List.set_cons_succ]
    rfl
   refine one_ (i := 5) (N := some 14) #[true, true, true, true, true, true, true, true, false, true, true, false, false, true, false] rfl rfl (by kernel_rfl) (by decide) (fun K hK => ?_)
   refine goes_ Try.func13 (by kernel_rfl) rfl #[.slice A2 d.roles.length c2] (by rfl) rfl rfl (by (try simp only [List.map_toArray, List.map_cons, List.map_nil]); first | done | rfl) ?_
   refine (longer_go A2 c2 d.roles _ ((HP.out.below (below_then HW0.out HW0.out.size HB3.out)).h2) HP.out.l2 HK.out.roles).mono ?_
   rintro e w5 ⟨Br, kr, rfl, hR, hb⟩
   refine ⟨_, rfl, ?_⟩
   have HB4 := Aside0.mk (below_then HB3.out HB3.out.size hb)
   have HS3 := Aside0.mk (HS3.out.below hb)
   have HA := Aside0.mk (All.cons (E := ent Kd.string 9 w.heap.size (.slice Br (d.roles.length + 1) kr) (d.roles ++ [sh])) (Kd.R_lower hR (Nat.le_trans HW0.out.size HB3.out.size)) (HA.out.below hb))
   clear hR hb
   refine hK.out _ _ ⟨pw_cell_below HB4.out (HB0.out.cell 0), pw_cell_below HB4.out (HB0.out.cell 2), pw_cell_below HB4.out (HB0.out.cell 3), pw_cell_below HB4.out (HB0.out.cell 4)⟩ (fun hHeld => ?_)
   clear hK K
   refine norm_ (a' := ?_) ?_ ?_
   rotate_left
   ·show Act.put _ (some 14) _ = _
    simp only [Act.put, List.setIfInBounds_toArray, List.set_cons_zero, List.set_cons_succ]
    rfl
   refine one_ (i := 8) (N := some 17) #[true, true, true, true, true, true, true, true, true, true, true, false, false, true, false] rfl rfl (by kernel_rfl) (by decide) (fun K hK => ?_)
   refine goes_ Try.func13 (by kernel_rfl) rfl #[.slice A3 d.objs.length c3] (by rfl) rfl rfl (by (try simp only [List.map_toArray, List.map_cons, List.map_nil]); first | done | rfl) ?_
   refine (longer_go A3 c3 d.objs _ ((HP.out.below (below_then HW0.out HW0.out.size HB4.out)).h3) HP.out.l3 HK.out.objs).mono ?_
   rintro e w8 ⟨Bo, ko, rfl, hR, hb⟩
   refine ⟨_, rfl, ?_⟩
   have HB5 := Aside0.mk (below_then HB4.out HB4.out.size hb)
   have HS3 := Aside0.mk (HS3.out.below hb)
   have HA := Aside0.mk (All.cons (E := ent Kd.string 9 w.heap.size (.slice Bo (d.objs.length + 1) ko) (d.objs ++ [sh])) (Kd.R_lower hR (Nat.le_trans HW0.out.size HB4.out.size)) (HA.out.below hb))
   clear hR hb
   refine hK.out _ _ ⟨pw_cell_below HB5.out (HB0.out.cell 0), pw_cell_below HB5.out (HB0.out.cell 2), pw_cell_below HB5.out (HB0.out.cell 3), pw_cell_below HB5.out (HB0.out.cell 4)⟩ (fun hHeld => ?_)
   clear hK K
   refine norm_ (a' := ?_) ?_ ?_
   rotate_left
   ·show Act.put _ (some 17) _ = _
    simp only [Act.put, List.setIfInBounds_toArray, List.set_cons_zero, List.set_cons_succ]
    rfl
   refine one_ (i := 11) (N := some 20) #[true, true, true, true, true, true, true, true, true, true, true, true, false, true, false] rfl rfl (by kernel_rfl) (by decide) (fun K hK => ?_)
   refine goes_ Try.func13 (by kernel_rfl) rfl #[.slice A4 d.grps.length c4] (by rfl) rfl rfl (by (try simp only [List.map_toArray, List.map_cons, List.map_nil]); first | done | rfl) ?_
   refine (longer_go A4 c4 d.grps _ ((HP.out.below (below_then HW0.out HW0.out.size HB5.out)).h4) HP.out.l4 HK.out.grps).mono ?_
   rintro e w11 ⟨Bg, kg, rfl, hR, hb⟩
   refine ⟨_, rfl, ?_⟩
   have HB6 := Aside0.mk (below_then HB5.out HB5.out.size hb)
   have HS3 := Aside0.mk (HS3.out.below hb)
   have HA := Aside0.mk (All.cons (E := ent Kd.string 9 w.heap.size (.slice Bg (d.grps.length + 1) kg) (d.grps ++ [sh])) (Kd.R_lower hR (Nat.le_trans HW0.out.size HB5.out.size)) (HA.out.below hb))
   clear hR hb
   refine hK.out _ _ ⟨pw_cell_below HB6.out (HB0.out.cell 0), pw_cell_below HB6.out (HB0.out.cell 2), pw_cell_below HB6.out (HB0.out.cell 3), pw_cell_below HB6.out (HB0.out.cell 4)⟩ (fun hHeld => ?_)
   clear hK K
   refine norm_ (a' := ?_) ?_ ?_
   rotate_left
   ·show Act.put _ (some 20) _ = _
    simp only [Act.put, List.setIfInBounds_toArray, List.set_cons_zero, List.set_cons_succ]
    rfl
   refine pure_ (i := 12) (N := some 21) (v := ?_) (a' := ?_) #[true, true, true, true, true, true, true, true, true, true, true, true, true, true, false] rfl rfl (by kernel_rfl) (fun _ _ _ h => h) (Or.inl ⟨by rfl, ?_⟩) ?_ ?_
   rotate_left
   ·intro w'
    have hz := z28
    go_simp
    with_reducible rfl
   rotate_left
   ·simp only [Act.put, List.setIfInBounds_toArray, List.set_cons_zero, List.set_cons_succ]
    rfl
   refine last_ (i := 14) (N := none) #[true, true, true, true, true, true, true, true, true, true, true, true, true, true, true] rfl rfl (by kernel_rfl) (by decide) (fun K hK => ?_)
   have hst := run_storeAt_mid (P := Try.prog) w11 g3 0 28 (qV (.slice Ba (d.acts.length + 1) ka) nil (.slice Br (d.roles.length + 1) kr) (.slice Bo (d.objs.length + 1) ko) (.slice Bg (d.grps.length + 1) kg) nil nil nil nil nil nil) (Stays.there (cs := #[.slice none 0 0, .slice none 0 0, .slice none 0 0, .slice none 0 0, .slice none 0 0, .slice none 0 0, .slice none 0 0, .slice none 0 0, .slice none 0 0, .slice none 0 0, .slice none 0 0]) HS3.out) i28 (by simp [qV, nil, Value.oneCell'])
   refine KBase.step_skip (w' := World.setCells w11 g3 0 (qV (.slice Ba (d.acts.length + 1) ka) nil (.slice Br (d.roles.length + 1) kr) (.slice Bo (d.objs.length + 1) ko) (.slice Bg (d.grps.length + 1) kg) nil nil nil nil nil nil).toList) rfl rfl (by first | (simp [execOp, Act.eval, hst]; done) | (show Sem.run Try.prog _ _ = _; simp only [execOp, Act.eval]; simp; rw [hst]; rfl)) ?_
   refine hK.out _ _ ?_
   clear hK K hst
   refine done_ (by kernel_rfl) ?_
   have hS3 := setCells_var (vs := (qV (.slice Ba (d.acts.length + 1) ka) nil (.slice Br (d.roles.length + 1) kr) (.slice Bo (d.objs.length + 1) ko) (.slice Bg (d.grps.length + 1) kg) nil nil nil nil nil nil)) HS3.out rfl
   have hbb := setCells_below HB6.out HLE.out (qV (.slice Ba (d.acts.length + 1) ka) nil (.slice Br (d.roles.length + 1) kr) (.slice Bo (d.objs.length + 1) ko) (.slice Bg (d.grps.length + 1) kg) nil nil nil nil nil nil).toList
   have hAL := HA.out.only (Only.sets HS3.out (qV (.slice Ba (d.acts.length + 1) ka) nil (.slice Br (d.roles.length + 1) kr) (.slice Bo (d.objs.length + 1) ko) (.slice Bg (d.grps.length + 1) kg) nil nil nil nil nil nil).toList) rfl
   have HF := Aside0.mk (Rm.mk (g1 := w.heap.size) (gv := gv) (HB0.out.below hbb) (HV0.out.below hbb) hS3 hAL (below_then HW0.out HW0.out.size hbb) (by have := HG3.out; have := HGV.out; omega) (by have := HG3.out; have := HGV.out; omega))
   clear hS3 hbb hAL hHeld
   go_wp2
   go_meet
   exact ⟨g3, _, _, _, _, _, _, _, _, rfl, HG3, HF⟩
 case rest =>
  obtain ⟨g3, Ba, ka, Br, kr, Bo, ko, Bg, kg, rfl, HG3, HT⟩ := hcut
  have xf1 := HT.out.f.cell 1
  have xp1 := HT.out.box.cell 1
  simp only [qV, List.getElem?_toArray, List.getElem?_cons_zero, List.getElem?_cons_succ] at xf1 xp1
  have HLm := Aside0.mk (show (([] : List S42).length + d.subs.length) * 24 ≤ 140737488355328 by have h := HK.out.subs; simp only [List.length_nil]; omega)
  go_upto_region 3 with ((with_reducible refine gate_builtin (b := .append) (xs := #[.tmp 23, .tmp 25]) rfl ?_); at_builtin; refine Kd.R_append_rows k42 (w0 := w) w.heap.size rfl (.tmp 23) (.tmp 25) 23 42 (.agg #[(.string ⟨#[]⟩), (.float .f64 0)]) 24 rfl Try.underlying23 info42 rfl (by decide) (by decide) nil [] d.subs A1 d.subs.length c1 (fun _ => True) (fun _ => False) rfl rfl (Kd.R_nil _ _ _ _ (fun _ => True)) (HP.out.below HT.out.below).h1 (fun _ _ h => h) (fun _ h => h.elim) (fun _ _ => trivial) HT.out.below HT.out.below.size HLm.out ?_; intro v1 w1 hR1 _ hg1 _; obtain ⟨B1, k1, hv1⟩ := Kd.R_slice hR1; rw [List.nil_append] at hR1 hv1; subst hv1; have HT2 := Aside0.mk ((HT.out.app (t := 42) hg1 (fun k hk => by simp [Value.ownBlock] at hk) (fun k hk => by simp [Value.ownBlock] at hk) (by decide) (by decide) rfl).add (E := ent k42 42 w.heap.size (.slice B1 d.subs.length k1) d.subs) hR1); have x_ := HT2.out.f.cell 1; have y_ := blk_frozen HT2.out.f 1; simp only [qV, List.getElem?_toArray, List.getElem?_cons_zero, List.getElem?_cons_succ] at x_; clear hR1 hg1)
  clear HLm xp1
  have hT := HT2.out.set 1 (.slice B1 d.subs.length k1) (by have := HG3.out; omega) rfl
  clear HT HT2 x_ y_ xf1
  generalize World.setCell w1 ⟨g3, 1, none⟩ (.slice B1 d.subs.length k1) = wc at hT ⊢
  have HT := Aside0.mk hT
  clear hT
  have xf1 := HT.out.f.cell 1
  simp only [qV, List.getElem?_toArray, List.getElem?_cons_zero, List.getElem?_cons_succ] at xf1
  have HLm := Aside0.mk (show (d.subs.length + 1) * 24 ≤ 140737488355328 by have h := HK.out.subs; omega)
  have HR1 := Aside0.mk (HT.out.all.get 0 rfl : Kd.R k42 42 wc w.heap.size (fun _ => True) (.slice B1 d.subs.length k1) d.subs)
  have HT1 := Aside0.mk HT.out.drop
  go_upto_region 4 with ((with_reducible refine gate_builtin (b := .append) (xs := #[.tmp 29, .tmp 31]) rfl ?_); at_builtin; refine Kd.R_append k42 (w0 := w) w.heap.size rfl (.tmp 29) (.tmp 31) 23 42 (.agg #[(.string ⟨#[]⟩), (.float .f64 0)]) 24 rfl Try.underlying23 info42 rfl (by decide) (by decide) (.slice B1 d.subs.length k1) d.subs (⟨sh, 0⟩ : S42) [.string sh, .float .f64 0] (fun _ => True) (fun _ => False) rfl rfl (k42_mkM _ _ _ _) (fun _ h => h.elim) (fun _ _ => trivial) HR1.out HT.out.below HT.out.below.size HLm.out ?_; intro v1 w1 hR1 _ hg1 _; obtain ⟨C1, j1, hv1⟩ := Kd.R_slice hR1; rw [List.length_append, List.length_singleton] at hv1; subst hv1; have HT2 := Aside0.mk ((HT1.out.app (t := 42) hg1 (Kd.R_typed HR1.out) (Kd.R_base HR1.out) (by decide) (by decide) rfl).add (E := ent k42 42 w.heap.size (.slice C1 (d.subs.length + 1) j1) (d.subs ++ ([⟨sh, 0⟩] : List S42))) hR1); have x_ := HT2.out.f.cell 1; have y_ := blk_frozen HT2.out.f 1; simp only [qV, List.getElem?_toArray, List.getElem?_cons_zero, List.getElem?_cons_succ] at x_; clear hR1 hg1)
  clear HLm HR1 HT1
  have hT := HT2.out.set 1 (.slice C1 (d.subs.length + 1) j1) (by have := HG3.out; omega) rfl
  clear HT HT2 x_ y_ xf1
  generalize World.setCell w1 ⟨g3, 1, none⟩ (.slice C1 (d.subs.length + 1) j1) = wc at hT ⊢
  have HT := Aside0.mk hT
  clear hT
  have xf5 := HT.out.f.cell 5
  have xp5 := HT.out.box.cell 5
  simp only [qV, List.getElem?_toArray, List.getElem?_cons_zero, List.getElem?_cons_succ] at xf5 xp5
  go_upto_region 5 with (go_at_call 14; ((with_reducible refine (pairs_go A5 c5 d.mem _ (HP.out.below HT.out.below).h5 HP.out.l5 HK.out.mem).mono ?_); rintro e w1 ⟨B5, k5, rfl, hR1, hb1⟩; have HT2 := Aside0.mk ((HT.out.move hb1).add (E := ent k59 59 w.heap.size (.slice B5 (d.mem.length + 1) k5) (d.mem ++ ([⟨sh, e0⟩] : List S59))) (Kd.R_lower hR1 HT.out.below.size)); have x_ := HT2.out.f.cell 5; have y_ := blk_frozen HT2.out.f 5; simp only [qV, List.getElem?_toArray, List.getElem?_cons_zero, List.getElem?_cons_succ] at x_; clear hR1 hb1))
  clear xp5
  have hT := HT2.out.set 5 (.slice B5 (d.mem.length + 1) k5) (by have := HG3.out; omega) rfl
  clear HT HT2 x_ y_ xf5
  generalize World.setCell w1 ⟨g3, 5, none⟩ (.slice B5 (d.mem.length + 1) k5) = wc at hT ⊢
  have HT := Aside0.mk hT
  clear hT
  have xf6 := HT.out.f.cell 6
  have xp6 := HT.out.box.cell 6
  simp only [qV, List.getElem?_toArray, List.getElem?_cons_zero, List.getElem?_cons_succ] at xf6 xp6
  go_upto_region 6 with (go_at_call 14; ((with_reducible refine (pairs_go A6 c6 d.inh _ (HP.out.below HT.out.below).h6 HP.out.l6 HK.out.inh).mono ?_); rintro e w1 ⟨B6, k6, rfl, hR1, hb1⟩; have HT2 := Aside0.mk ((HT.out.move hb1).add (E := ent k59 59 w.heap.size (.slice B6 (d.inh.length + 1) k6) (d.inh ++ ([⟨sh, e0⟩] : List S59))) (Kd.R_lower hR1 HT.out.below.size)); have x_ := HT2.out.f.cell 6; have y_ := blk_frozen HT2.out.f 6; simp only [qV, List.getElem?_toArray, List.getElem?_cons_zero, List.getElem?_cons_succ] at x_; clear hR1 hb1))
  clear xp6
  have hT := HT2.out.set 6 (.slice B6 (d.inh.length + 1) k6) (by have := HG3.out; omega) rfl
  clear HT HT2 x_ y_ xf6
  generalize World.setCell w1 ⟨g3, 6, none⟩ (.slice B6 (d.inh.length + 1) k6) = wc at hT ⊢
  have HT := Aside0.mk hT
  clear hT
  have xf7 := HT.out.f.cell 7
  have xp7 := HT.out.box.cell 7
  simp only [qV, List.getElem?_toArray, List.getElem?_cons_zero, List.getElem?_cons_succ] at xf7 xp7
  go_upto_region 7 with (go_at_call 14; ((with_reducible refine (pairs_go A7 c7 d.par _ (HP.out.below HT.out.below).h7 HP.out.l7 HK.out.par).mono ?_); rintro e w1 ⟨B7, k7, rfl, hR1, hb1⟩; have HT2 := Aside0.mk ((HT.out.move hb1).add (E := ent k59 59 w.heap.size (.slice B7 (d.par.length + 1) k7) (d.par ++ ([⟨sh, e0⟩] : List S59))) (Kd.R_lower hR1 HT.out.below.size)); have x_ := HT2.out.f.cell 7; have y_ := blk_frozen HT2.out.f 7; simp only [qV, List.getElem?_toArray, List.getElem?_cons_zero, List.getElem?_cons_succ] at x_; clear hR1 hb1))
  clear xp7
  have hT := HT2.out.set 7 (.slice B7 (d.par.length + 1) k7) (by have := HG3.out; omega) rfl
  clear HT HT2 x_ y_ xf7
  generalize World.setCell w1 ⟨g3, 7, none⟩ (.slice B7 (d.par.length + 1) k7) = wc at hT ⊢
  have HT := Aside0.mk hT
  clear hT
  have xf8 := HT.out.f.cell 8
  have xp8 := HT.out.box.cell 8
  simp only [qV, List.getElem?_toArray, List.getElem?_cons_zero, List.getElem?_cons_succ] at xf8 xp8
  go_upto_region 8 with (go_at_call 14; ((with_reducible refine (pairs_go A8 c8 d.wit _ (HP.out.below HT.out.below).h8 HP.out.l8 HK.out.wit).mono ?_); rintro e w1 ⟨B8, k8, rfl, hR1, hb1⟩; have HT2 := Aside0.mk ((HT.out.move hb1).add (E := ent k59 59 w.heap.size (.slice B8 (d.wit.length + 1) k8) (d.wit ++ ([⟨sh, e0⟩] : List S59))) (Kd.R_lower hR1 HT.out.below.size)); have x_ := HT2.out.f.cell 8; have y_ := blk_frozen HT2.out.f 8; simp only [qV, List.getElem?_toArray, List.getElem?_cons_zero, List.getElem?_cons_succ] at x_; clear hR1 hb1))
  clear xp8
  have hT := HT2.out.set 8 (.slice B8 (d.wit.length + 1) k8) (by have := HG3.out; omega) rfl
  clear HT HT2 x_ y_ xf8
  generalize World.setCell w1 ⟨g3, 8, none⟩ (.slice B8 (d.wit.length + 1) k8) = wc at hT ⊢
  have HT := Aside0.mk hT
  clear hT
  have xp9 := HT.out.box.cell 9
  simp only [qV, List.getElem?_toArray, List.getElem?_cons_zero, List.getElem?_cons_succ] at xp9
  go_upto_region 10 with fail
  clear xp9
  go_loopw [4, 5] (fun u4 u5 wr => ∃ (i : Nat) (T : List TR) (v9 : Value), i ≤ d.rules.length ∧ u5 = .int .i64 i ∧ Aside0 (T.map (fun x => x.1) = d.rules.take i) ∧ Aside0 (Rm w w.heap.size gv g3 #[.slice A0 d.acts.length c0, .slice A1 d.subs.length c1, .slice A2 d.roles.length c2, .slice A3 d.objs.length c3, .slice A4 d.grps.length c4, .slice A5 d.mem.length c5, .slice A6 d.inh.length c6, .slice A7 d.par.length c7, .slice A8 d.wit.length c8, .slice A9 d.rules.length c9, .slice A10 d.exc.length c10] #[.slice none 0 0, .slice none 0 0, .slice none 0 0, .slice none 0 0, .slice none 0 0, .slice none 0 0, .slice none 0 0, .slice none 0 0, .slice none 0 0, .slice none 0 0, .slice none 0 0, .slice none 0 0, .slice none 0 0, .slice none 0 0, .slice none 0 0, .slice none 0 0, .slice none 0 0, .slice none 0 0, .slice none 0 0, .slice none 0 0, .slice none 0 0, .slice none 0 0, .slice none 0 0] (qV (.slice Ba (d.acts.length + 1) ka) (.slice C1 (d.subs.length + 1) j1) (.slice Br (d.roles.length + 1) kr) (.slice Bo (d.objs.length + 1) ko) (.slice Bg (d.grps.length + 1) kg) (.slice B5 (d.mem.length + 1) k5) (.slice B6 (d.inh.length + 1) k6) (.slice B7 (d.par.length + 1) k7) (.slice B8 (d.wit.length + 1) k8) v9 nil) [ent (Kd.raw 6) 51 w.heap.size v9 (T.map rcell), ent (Kd.raw 1) 22 w.heap.size u4 (T.map lcell), entEach w.heap.size T, ent k59 59 w.heap.size (.slice B8 (d.wit.length + 1) k8) (d.wit ++ ([⟨sh, e0⟩] : List S59)), ent k59 59 w.heap.size (.slice B7 (d.par.length + 1) k7) (d.par ++ ([⟨sh, e0⟩] : List S59)), ent k59 59 w.heap.size (.slice B6 (d.inh.length + 1) k6) (d.inh ++ ([⟨sh, e0⟩] : List S59)), ent k59 59 w.heap.size (.slice B5 (d.mem.length + 1) k5) (d.mem ++ ([⟨sh, e0⟩] : List S59)), ent k42 42 w.heap.size (.slice C1 (d.subs.length + 1) j1) (d.subs ++ ([⟨sh, 0⟩] : List S42)), ent Kd.string 9 w.heap.size (.slice Bg (d.grps.length + 1) kg) (d.grps ++ [sh]), ent Kd.string 9 w.heap.size (.slice Bo (d.objs.length + 1) ko) (d.objs ++ [sh]), ent Kd.string 9 w.heap.size (.slice Br (d.roles.length + 1) kr) (d.roles ++ [sh]), ent Kd.string 9 w.heap.size (.slice Ba (d.acts.length + 1) ka) (d.acts ++ [sh])] wr)) (fun _ u5 _ => d.rules.length - (intOf u5).toNat)
  case atStart => exact ⟨0, [], nil, by omega, rfl, ⟨rfl⟩, ⟨((HT.out.add (E := entEach w.heap.size []) (fun x hx => by simp at hx)).add (E := ent (Kd.raw 1) 22 w.heap.size nil []) (Kd.R_nil _ _ _ _ _)).add (E := ent (Kd.raw 6) 51 w.heap.size nil []) (Kd.R_nil _ _ _ _ _)⟩⟩
  case round =>
   clear HT
   obtain ⟨i, T, v9, hi, rfl, HTM, HT⟩ := hrel
   obtain ⟨Bv, kv, hv9⟩ := Kd.R_slice (HT.out.all.get 0 rfl : Kd.R (Kd.raw 6) 51 wr w.heap.size (fun _ => True) v9 (T.map rcell))
   obtain ⟨nv, hnv9⟩ : ∃ nv, nv = (T.map rcell).length := ⟨_, rfl⟩
   rw [← hnv9] at hv9
   subst hv9
   clear hnv9
   have xp9 := HT.out.box.cell 9
   simp only [qV, List.getElem?_toArray, List.getElem?_cons_zero, List.getElem?_cons_succ] at xp9
   by_cases hlt : i < d.rules.length
   ·have hlt' : ((i : Int) < d.rules.length) := by omega
    have hTl : T.length = i := by have h := congrArg List.length HTM.out; rw [List.length_map, List.length_take] at h; omega
    obtain ⟨ad, Ar, cr, rfl, y0, y1, y2, y3, y4, y5, hrc, hrC⟩ := at_T51 (show Kd.C k51 wr A9 d.rules.length d.rules from (HP.out.below HT.out.below).h9) (i : Int) (by omega) (by omega)
    have hq : rd_T51 d.rules (i : Int) = d.rules[i] := by simp [rd_T51, List.getD_eq_getElem?_getD, hlt]
    rw [hq] at y0 y1 y2 y3 y4 y5 hrc hrC
    have hlr := HK.out.each d.rules[i] (List.getElem_mem hlt)
    obtain ⟨r, hrr⟩ : ∃ r, r = d.rules[i] := ⟨_, rfl⟩
    have htk : d.rules.take (i + 1) = d.rules.take i ++ [r] := by rw [hrr]; exact List.take_succ_eq_append_getElem hlt
    rw [← hrr] at y0 y1 y2 y3 y4 y5 hrc hrC hlr
    simp only [Int.toNat_natCast] at y0 y1 y2 y3 y4 y5
    have HTK := Aside0.mk htk
    have HRC := Aside0.mk hrc
    have HRR := Aside0.mk hrC
    have HLR := Aside0.mk hlr
    have HTL := Aside0.mk hTl
    clear hq hrr htk hrc hrC hlr hTl
    go_upto_region 13 with (first | ((with_reducible refine gate_dst (N := 6) rfl ?_); refine wpList_alloc_store rfl rfl 51 6 (.tmp 61) rfl rfl rfl #[.bool false, .string ⟨#[]⟩, .string ⟨#[]⟩, .slice none 0 0, .int .i8 0, .float .f64 0] #[.bool r.f0, .string r.f1, .string r.f2, .slice Ar r.f3.length cr, .int .i8 r.f4, .float .f64 r.f5] _ (z51 _) rfl (by kernel_rfl) rfl (by simp [Value.oneCell']) rfl rfl ?_))
    clear y0 y1 y2 y3 y4 y5 xp9
    have hb6 := below_alloc (Below.refl _ wr) (.cells #[.bool r.f0, .string r.f1, .string r.f2, .slice Ar r.f3.length cr, .int .i8 r.f4, .float .f64 r.f5] 51)
    have hg6 : Stays (wr.alloc (.cells #[.bool r.f0, .string r.f1, .string r.f2, .slice Ar r.f3.length cr, .int .i8 r.f4, .float .f64 r.f5] 51)) wr.heap.size #[.bool r.f0, .string r.f1, .string r.f2, .slice Ar r.f3.length cr, .int .i8 r.f4, .float .f64 r.f5] 51 := heap_alloc_new wr _
    have hR51 : Kd.R (Kd.raw 6) 51 wr w.heap.size (fun _ => True) (.slice Bv nv kv) (T.map rcell) := HT.out.all.get 0 rfl
    have hoff : Kd.R (Kd.raw 6) 51 (wr.alloc (.cells #[.bool r.f0, .string r.f1, .string r.f2, .slice Ar r.f3.length cr, .int .i8 r.f4, .float .f64 r.f5] 51)) w.heap.size (fun k => k ≠ wr.heap.size) (.slice Bv nv kv) (T.map rcell) := Kd.R_below (Kd.R_mono (Kd.R_bound hR51) (fun k hk => by have := hk.2.2.1; omega)) hb6
    have hT := (HT.out.drop.move hb6).add (E := entO (Kd.raw 6) 51 w.heap.size (fun k => k ≠ wr.heap.size) (.slice Bv nv kv) (T.map rcell)) hoff
    have hC6 := Kd.C_below HRR.out hb6
    have hs6 := HT.out.below.size
    have hn63 : g3 < wr.heap.size := (Array.getElem?_eq_some_iff.1 HT.out.f).1
    have hnv : gv < wr.heap.size := (Array.getElem?_eq_some_iff.1 HT.out.res).1
    have hnb : w.heap.size < wr.heap.size := (Array.getElem?_eq_some_iff.1 HT.out.box).1
    clear HT HRR hR51 hoff hb6
    obtain ⟨g6, hg6e⟩ : ∃ g6, g6 = wr.heap.size := ⟨_, rfl⟩
    rw [← hg6e] at hg6 hT hs6 hn63 hnv hnb ⊢
    have HN6 := Aside0.mk (And.intro hn63 (And.intro hnv hnb))
    generalize wr.alloc (.cells #[.bool r.f0, .string r.f1, .string r.f2, .slice Ar r.f3.length cr, .int .i8 r.f4, .float .f64 r.f5] 51) = W6 at hg6 hT hC6 ⊢
    have HT := Aside0.mk hT
    have HG6 := Aside0.mk hg6
    have HC6 := Aside0.mk hC6
    have xg3 := HG6.out.cell 3
    simp only [List.getElem?_toArray, List.getElem?_cons_zero, List.getElem?_cons_succ] at xg3
    clear hg6 hT hC6 hs6 hg6e hn63 hnv hnb
    go_upto_region 14 with (go_at_call 13; ((with_reducible refine (longer_go Ar cr r.f3 _ HC6.out HRC.out HLR.out).mono ?_); rintro e W7 ⟨Aa, ca, rfl, hRa, hb7⟩; have HG7 := Aside0.mk (HG6.out.below hb7); have HRa := Aside0.mk (Kd.R_lower hRa HT.out.below.size); have HT7 := Aside0.mk (HT.out.move hb7); clear hRa hb7))
    clear HT HG6 HC6 xg3
    have h51 : Kd.R (Kd.raw 6) 51 W7 w.heap.size (fun k => k ≠ g6) (.slice Bv nv kv) (T.map rcell) := HT7.out.all.get 0 rfl
    have h22 : Kd.R (Kd.raw 1) 22 W7 w.heap.size (fun _ => True) u4 (T.map lcell) := HT7.out.all.get 1 rfl
    have HR51 := Aside0.mk h51
    have HR22 := Aside0.mk h22
    have HTr := Aside0.mk HT7.out.drop.drop
    have HLm := Aside0.mk (show ((T.map lcell).length + 1) * 24 ≤ 140737488355328 by have h1 := HTL.out; have h2 := HK.out.rules; rw [List.length_map]; omega)
    clear h51 h22
    go_upto_region 15 with ((with_reducible refine gate_builtin (b := .append) (xs := #[.tmp 65, .tmp 67]) rfl ?_); at_builtin; refine Kd.R_append (Kd.raw 1) (w0 := w) w.heap.size rfl (.tmp 65) (.tmp 67) 31 22 (.slice none 0 0) 24 rfl Try.underlying31 info22 rfl (by decide) (by decide) u4 (T.map lcell) [.slice Aa (r.f3.length + 1) ca] [.slice Aa (r.f3.length + 1) ca] (fun _ => True) (fun _ => False) rfl rfl ⟨rfl, rfl, by simp [Value.oneCell']⟩ (fun _ h => h.elim) (fun _ _ => trivial) HR22.out HTr.out.below HTr.out.below.size HLm.out ?_; intro vl W8 hR8 _ hg8 _; have HO8 := Aside0.mk (Only.grown hg8 (Kd.R_typed HR22.out)); have HT8 := Aside0.mk (HTr.out.app (t := 22) hg8 (Kd.R_typed HR22.out) (Kd.R_base HR22.out) (by decide) (by decide) rfl); have HL8 := Aside0.mk hR8; clear hR8 hg8)
    have H51 := Aside0.mk (R_only HR51.out HO8.out rfl : Kd.R (Kd.raw 6) 51 W8 w.heap.size (fun k => k ≠ g6) (.slice Bv nv kv) (T.map rcell))
    have HA8 := Aside0.mk (R_only HRa.out HO8.out rfl : Kd.R Kd.string 9 W8 w.heap.size (fun _ => True) (.slice Aa (r.f3.length + 1) ca) (r.f3 ++ [sh]))
    have HG8 := Aside0.mk (HO8.out.stays HG7.out (by decide))
    have xg3 := HG8.out.cell 3
    have yg3 := blk_frozen HG8.out 3
    simp only [List.getElem?_toArray, List.getElem?_cons_zero, List.getElem?_cons_succ] at xg3
    have hcap : r.f3.length + 1 ≤ ca := (Kd.R_reads' HA8.out).2.1
    have hcap2 : (r.f3.length : Int) ≤ ca := by omega
    have hwr : wrap64 ((r.f3.length : Nat) : Int) = r.f3.length := by have := HLR.out; unfold wrap64; omega
    clear HT7 HR51 HR22 HTr HLm HO8 HRa HG7
    go_upto_region 16 with fail
    clear xg3 yg3 hcap hcap2 hwr
    have hn1 : w.heap.size ≠ g6 := by have := HN6.out.2.2; omega
    have hT9 := HT8.out.var (j := 3) HG8.out (.slice Aa r.f3.length ca) hn1 (by have := HN6.out.2.1; omega) (by have := HN6.out.1; omega) (by have := HN6.out.2.2; omega) rfl
    have hL9 : Kd.R (Kd.raw 1) 22 (W8.setCell ⟨g6, 3, none⟩ (.slice Aa r.f3.length ca)) w.heap.size (fun _ => True) vl (T.map lcell ++ ([[Value.slice Aa (r.f3.length + 1) ca]] : List (List Value))) := R_only HL8.out (Only.set HG8.out _) rfl
    have hA9 : Kd.R Kd.string 9 (W8.setCell ⟨g6, 3, none⟩ (.slice Aa r.f3.length ca)) w.heap.size (fun _ => True) (.slice Aa (r.f3.length + 1) ca) (r.f3 ++ [sh]) := R_only HA8.out (Only.set HG8.out _) rfl
    have h59 : Kd.R (Kd.raw 6) 51 (W8.setCell ⟨g6, 3, none⟩ (.slice Aa r.f3.length ca)) w.heap.size (fun k => k ≠ g6) (.slice Bv nv kv) (T.map rcell) := Kd.R_far H51.out (p := ⟨g6, 3, none⟩) (fun k hk => hk) _
    have hG9 := stays_set HG8.out 3 (.slice Aa r.f3.length ca)
    simp only [List.setIfInBounds_toArray, List.set_cons_zero, List.set_cons_succ] at hG9
    clear HT8 HL8 H51 HA8 HG8 hn1
    generalize W8.setCell ⟨g6, 3, none⟩ (.slice Aa r.f3.length ca) = W9 at hT9 hL9 hA9 h59 hG9 ⊢
    have HT9 := Aside0.mk hT9
    have HL9 := Aside0.mk hL9
    have HA9 := Aside0.mk hA9
    have H59 := Aside0.mk (Kd.R_mono h59 (fun _ _ => trivial) : Kd.R (Kd.raw 6) 51 W9 w.heap.size (fun _ => True) (.slice Bv nv kv) (T.map rcell))
    have HG9 := Aside0.mk hG9
    clear hT9 hL9 hA9 h59 hG9
    have xf9 := HT9.out.f.cell 9
    simp only [qV, List.getElem?_toArray, List.getElem?_cons_zero, List.getElem?_cons_succ] at xf9
    have HLm := Aside0.mk (show ((T.map rcell).length + 1) * 80 ≤ 140737488355328 by have h1 := HTL.out; have h2 := HK.out.rules; rw [List.length_map]; omega)
    go_wp2_with (first
     | ((with_reducible refine gate_dst (N := 77) rfl ?_); refine wpList_load_blk rfl 51 (.tmp 6) rfl g6 ?hx1 #[.bool r.f0, .string r.f1, .string r.f2, .slice Aa r.f3.length ca, .int .i8 r.f4, .float .f64 r.f5] 51 HG9.out _ Try.underlying51 rfl (by kernel_rfl) ?_; (case hx1 => rfl))
     | ((with_reducible refine gate_builtin (b := .append) (xs := #[.tmp 76, .tmp 78]) rfl ?_); at_builtin; refine Kd.R_append (Kd.raw 6) (w0 := w) w.heap.size rfl (.tmp 76) (.tmp 78) 25 51 _ 80 rfl Try.underlying25 info51 rfl (by decide) (by decide) (.slice Bv nv kv) (T.map rcell) [.bool r.f0, .string r.f1, .string r.f2, .slice Aa r.f3.length ca, .int .i8 r.f4, .float .f64 r.f5] [.bool r.f0, .string r.f1, .string r.f2, .slice Aa r.f3.length ca, .int .i8 r.f4, .float .f64 r.f5] (fun _ => True) (fun _ => False) rfl rfl ⟨rfl, rfl, by simp [Value.oneCell']⟩ (fun _ h => h.elim) (fun _ _ => trivial) H59.out HT9.out.below HT9.out.below.size HLm.out ?_; intro vn Wn hRn _ hgn _; obtain ⟨Bn, kn, hvn⟩ := Kd.R_slice hRn; obtain ⟨nn, hnn⟩ : ∃ nn, nn = (T.map rcell ++ ([[Value.bool r.f0, .string r.f1, .string r.f2, .slice Aa r.f3.length ca, .int .i8 r.f4, .float .f64 r.f5]] : List (List Value))).length := ⟨_, rfl⟩; rw [← hnn] at hvn; subst hvn; have HOn := Aside0.mk (Only.grown hgn (Kd.R_typed H59.out)); have HTn := Aside0.mk (HT9.out.app (t := 51) hgn (Kd.R_typed H59.out) (Kd.R_base H59.out) (by decide) (by decide) rfl); have HRn := Aside0.mk hRn; have xn9 := HTn.out.f.cell 9; have yn9 := blk_frozen HTn.out.f 9; simp only [qV, List.getElem?_toArray, List.getElem?_cons_zero, List.getElem?_cons_succ] at xn9; clear hRn hgn hnn xf9))
    clear xn9 yn9
    have hLn : Kd.R (Kd.raw 1) 22 Wn w.heap.size (fun _ => True) vl (T.map lcell ++ ([[Value.slice Aa (r.f3.length + 1) ca]] : List (List Value))) := R_only HL9.out HOn.out rfl
    have hAn : Kd.R Kd.string 9 Wn w.heap.size (fun _ => True) (.slice Aa (r.f3.length + 1) ca) (r.f3 ++ [sh]) := R_only HA9.out HOn.out rfl
    have hEn : (entEach w.heap.size (T ++ [(r, Aa, ca)])).P Wn := fun x hx => by
     rcases List.mem_append.1 hx with h | h
     ·exact (HTn.out.all.get 0 (E := entEach w.heap.size T) rfl) x h
     ·rw [List.mem_singleton.1 h]; exact hAn
    have hRn' : Kd.R (Kd.raw 6) 51 Wn w.heap.size (fun _ => True) (.slice Bn nn kn) ((T ++ [(r, Aa, ca)]).map rcell) := by rw [List.map_append]; exact HRn.out
    have hLn' : Kd.R (Kd.raw 1) 22 Wn w.heap.size (fun _ => True) vl ((T ++ [(r, Aa, ca)]).map lcell) := by rw [List.map_append]; exact hLn
    have hF := (((HTn.out.drop.add hEn).add (E := ent (Kd.raw 1) 22 w.heap.size vl ((T ++ [(r, Aa, ca)]).map lcell)) hLn').add (E := ent (Kd.raw 6) 51 w.heap.size (.slice Bn nn kn) ((T ++ [(r, Aa, ca)]).map rcell)) hRn').set 9 (.slice Bn nn kn) (by have := HG3.out; omega) rfl
    have HTF := Aside0.mk (show Aside0 (Rm w w.heap.size gv g3 _ _ _ _ _) from ⟨hF⟩)
    have hTM : (T ++ [(r, Aa, ca)]).map (fun x => x.1) = d.rules.take (i + 1) := by rw [List.map_append, HTM.out, HTK.out]; rfl
    clear hLn hAn hEn hRn' hLn' hF
    exact round_end hlt (by have := HK.out.rules; omega) (fun hq => ⟨i + 1, T ++ [(r, Aa, ca)], _, by omega, hq, ⟨hTM⟩, HTF.out⟩)
   ·have hil : i = d.rules.length := by omega
    have hlt' : ¬ ((i : Int) < d.rules.length) := by omega
    have hTM : T.map (fun x => x.1) = d.rules := by rw [HTM.out, hil]; exact List.take_length
    have HTM := Aside0.mk hTM
    clear hTM hlt hi
    go_upto_region 17 with fail
    clear xp9 hil hlt'
    obtain ⟨Bl, kl, hu4⟩ := Kd.R_slice (HT.out.all.get 1 rfl : Kd.R (Kd.raw 1) 22 wr w.heap.size (fun _ => True) u4 (T.map lcell))
    have hTl0 : T.length = d.rules.length := by rw [← HTM.out, List.length_map]
    rw [List.length_map, hTl0] at hu4
    subst hu4
    clear hTl0
    have hTl : T.length = d.rules.length := by rw [← HTM.out, List.length_map]
    have HTL := Aside0.mk hTl
    have H51 := Aside0.mk (HT.out.all.get 0 rfl : Kd.R (Kd.raw 6) 51 wr w.heap.size (fun _ => True) (.slice Bv nv kv) (T.map rcell))
    have HT1 := Aside0.mk HT.out.drop
    have HLm := Aside0.mk (show ((T.map rcell).length + 1) * 80 ≤ 140737488355328 by have h2 := HK.out.rules; rw [List.length_map]; omega)
    clear hTl
    have xf9 := HT.out.f.cell 9
    simp only [qV, List.getElem?_toArray, List.getElem?_cons_zero, List.getElem?_cons_succ] at xf9
    go_upto_region 18 with ((with_reducible refine gate_builtin (b := .append) (xs := #[.tmp 82, .tmp 84]) rfl ?_); at_builtin; refine Kd.R_append (Kd.raw 6) (w0 := w) w.heap.size rfl (.tmp 82) (.tmp 84) 25 51 _ 80 rfl Try.underlying25 info51 rfl (by decide) (by decide) (.slice Bv nv kv) (T.map rcell) [.bool false, .string sh, .string e0, .slice none 0 0, .int .i8 0, .float .f64 0] [.bool false, .string sh, .string e0, .slice none 0 0, .int .i8 0, .float .f64 0] (fun _ => True) (fun _ => False) rfl rfl ⟨rfl, rfl, by simp [Value.oneCell']⟩ (fun _ h => h.elim) (fun _ _ => trivial) H51.out HT.out.below HT.out.below.size HLm.out ?_; intro v9 w1 hR1 _ hg1 _; obtain ⟨C9, j9, hv1⟩ := Kd.R_slice hR1; rw [List.length_append, List.length_singleton, List.length_map, HTL.out] at hv1; subst hv1; have HT2 := Aside0.mk ((HT1.out.app (t := 51) hg1 (Kd.R_typed H51.out) (Kd.R_base H51.out) (by decide) (by decide) rfl).add (E := ent (Kd.raw 6) 51 w.heap.size (.slice C9 (d.rules.length + 1) j9) (T.map rcell ++ ([[Value.bool false, .string sh, .string e0, .slice none 0 0, .int .i8 0, .float .f64 0]] : List (List Value)))) hR1); have x_ := HT2.out.f.cell 9; have y_ := blk_frozen HT2.out.f 9; simp only [qV, List.getElem?_toArray, List.getElem?_cons_zero, List.getElem?_cons_succ] at x_; clear hR1 hg1)
    clear HLm H51 HT1
    have hT := HT2.out.set 9 (.slice C9 (d.rules.length + 1) j9) (by have := HG3.out; omega) rfl
    clear HT HT2 x_ y_ xf9
    generalize World.setCell w1 ⟨g3, 9, none⟩ (.slice C9 (d.rules.length + 1) j9) = wc at hT ⊢
    have HT := Aside0.mk hT
    clear hT
    have xf10 := HT.out.f.cell 10
    have xp10 := HT.out.box.cell 10
    simp only [qV, List.getElem?_toArray, List.getElem?_cons_zero, List.getElem?_cons_succ] at xf10 xp10
    have HLm := Aside0.mk (show (([] : List S53).length + d.exc.length) * 48 ≤ 140737488355328 by have h := HK.out.exc; simp only [List.length_nil]; omega)
    go_upto_region 19 with ((with_reducible refine gate_builtin (b := .append) (xs := #[.tmp 88, .tmp 90]) rfl ?_); at_builtin; refine Kd.R_append_rows k53 (w0 := w) w.heap.size rfl (.tmp 88) (.tmp 90) 26 53 (.agg #[(.string ⟨#[]⟩), (.string ⟨#[]⟩), (.string ⟨#[]⟩)]) 48 rfl Try.underlying26 info53 rfl (by decide) (by decide) nil [] d.exc A10 d.exc.length c10 (fun _ => True) (fun _ => False) rfl rfl (Kd.R_nil _ _ _ _ (fun _ => True)) (HP.out.below HT.out.below).h10 (fun _ _ h => h) (fun _ h => h.elim) (fun _ _ => trivial) HT.out.below HT.out.below.size HLm.out ?_; intro v1 w1 hR1 _ hg1 _; obtain ⟨B10, k10, hv1⟩ := Kd.R_slice hR1; rw [List.nil_append] at hR1 hv1; subst hv1; have HT2 := Aside0.mk ((HT.out.app (t := 53) hg1 (fun k hk => by simp [Value.ownBlock] at hk) (fun k hk => by simp [Value.ownBlock] at hk) (by decide) (by decide) rfl).add (E := ent k53 53 w.heap.size (.slice B10 d.exc.length k10) d.exc) hR1); have x_ := HT2.out.f.cell 10; have y_ := blk_frozen HT2.out.f 10; simp only [qV, List.getElem?_toArray, List.getElem?_cons_zero, List.getElem?_cons_succ] at x_; clear hR1 hg1)
    clear HLm xp10
    have hT := HT2.out.set 10 (.slice B10 d.exc.length k10) (by have := HG3.out; omega) rfl
    clear HT HT2 x_ y_ xf10
    generalize World.setCell w1 ⟨g3, 10, none⟩ (.slice B10 d.exc.length k10) = wc at hT ⊢
    have HT := Aside0.mk hT
    clear hT
    have xf10 := HT.out.f.cell 10
    simp only [qV, List.getElem?_toArray, List.getElem?_cons_zero, List.getElem?_cons_succ] at xf10
    have HLm := Aside0.mk (show (d.exc.length + 1) * 48 ≤ 140737488355328 by have h := HK.out.exc; omega)
    have HR1 := Aside0.mk (HT.out.all.get 0 rfl : Kd.R k53 53 wc w.heap.size (fun _ => True) (.slice B10 d.exc.length k10) d.exc)
    have HT1 := Aside0.mk HT.out.drop
    go_upto_region 20 with ((with_reducible refine gate_builtin (b := .append) (xs := #[.tmp 94, .tmp 96]) rfl ?_); at_builtin; refine Kd.R_append k53 (w0 := w) w.heap.size rfl (.tmp 94) (.tmp 96) 26 53 (.agg #[(.string ⟨#[]⟩), (.string ⟨#[]⟩), (.string ⟨#[]⟩)]) 48 rfl Try.underlying26 info53 rfl (by decide) (by decide) (.slice B10 d.exc.length k10) d.exc (⟨sh, e0, e0⟩ : S53) [.string sh, .string e0, .string e0] (fun _ => True) (fun _ => False) rfl rfl (k53_mkM _ _ _ _) (fun _ h => h.elim) (fun _ _ => trivial) HR1.out HT.out.below HT.out.below.size HLm.out ?_; intro v1 w1 hR1 _ hg1 _; obtain ⟨C10, j10, hv1⟩ := Kd.R_slice hR1; rw [List.length_append, List.length_singleton] at hv1; subst hv1; have HT2 := Aside0.mk ((HT1.out.app (t := 53) hg1 (Kd.R_typed HR1.out) (Kd.R_base HR1.out) (by decide) (by decide) rfl).add (E := ent k53 53 w.heap.size (.slice C10 (d.exc.length + 1) j10) (d.exc ++ ([⟨sh, e0, e0⟩] : List S53))) hR1); have x_ := HT2.out.f.cell 10; have y_ := blk_frozen HT2.out.f 10; simp only [qV, List.getElem?_toArray, List.getElem?_cons_zero, List.getElem?_cons_succ] at x_; clear hR1 hg1)
    clear HLm HR1 HT1
    have hT := HT2.out.set 10 (.slice C10 (d.exc.length + 1) j10) (by have := HG3.out; omega) rfl
    clear HT HT2 x_ y_ xf10
    generalize World.setCell w1 ⟨g3, 10, none⟩ (.slice C10 (d.exc.length + 1) j10) = wc at hT ⊢
    have HT := Aside0.mk hT
    clear hT
    have hcap0 : (d.acts.length : Int) ≤ ka := by have h := (Kd.R_reads' (HT.out.all.get 12 rfl : Kd.R Kd.string 9 wc w.heap.size (fun _ => True) (.slice Ba (d.acts.length + 1) ka) _)).2.1; omega
    have hcap1 : (d.subs.length : Int) ≤ j1 := by have h := (Kd.R_reads' (HT.out.all.get 8 rfl : Kd.R k42 42 wc w.heap.size (fun _ => True) (.slice C1 (d.subs.length + 1) j1) _)).2.1; omega
    have hcap2 : (d.roles.length : Int) ≤ kr := by have h := (Kd.R_reads' (HT.out.all.get 11 rfl : Kd.R Kd.string 9 wc w.heap.size (fun _ => True) (.slice Br (d.roles.length + 1) kr) _)).2.1; omega
    have hcap3 : (d.objs.length : Int) ≤ ko := by have h := (Kd.R_reads' (HT.out.all.get 10 rfl : Kd.R Kd.string 9 wc w.heap.size (fun _ => True) (.slice Bo (d.objs.length + 1) ko) _)).2.1; omega
    have hcap4 : (d.grps.length : Int) ≤ kg := by have h := (Kd.R_reads' (HT.out.all.get 9 rfl : Kd.R Kd.string 9 wc w.heap.size (fun _ => True) (.slice Bg (d.grps.length + 1) kg) _)).2.1; omega
    have xf0 := HT.out.f.cell 0
    have xf1 := HT.out.f.cell 1
    have xf2 := HT.out.f.cell 2
    have xf3 := HT.out.f.cell 3
    have xf4 := HT.out.f.cell 4
    have xp0 := HT.out.box.cell 0
    have xp1 := HT.out.box.cell 1
    have xp2 := HT.out.box.cell 2
    have xp3 := HT.out.box.cell 3
    have xp4 := HT.out.box.cell 4
    simp only [qV, List.getElem?_toArray, List.getElem?_cons_zero, List.getElem?_cons_succ] at xf0 xf1 xf2 xf3 xf4 xp0 xp1 xp2 xp3 xp4
    go_upto_region 20 with fail
    refine start_ (n := 33) (S := fun w' => w'.cell? ⟨g3, 0, none⟩ = some (.slice Ba (d.acts.length + 1) ka) ∧ w'.cell? ⟨w.heap.size, 0, none⟩ = some (.slice A0 d.acts.length c0) ∧ w'.cell? ⟨g3, 1, none⟩ = some (.slice C1 (d.subs.length + 1) j1) ∧ w'.cell? ⟨w.heap.size, 1, none⟩ = some (.slice A1 d.subs.length c1) ∧ w'.cell? ⟨g3, 2, none⟩ = some (.slice Br (d.roles.length + 1) kr) ∧ w'.cell? ⟨w.heap.size, 2, none⟩ = some (.slice A2 d.roles.length c2) ∧ w'.cell? ⟨g3, 3, none⟩ = some (.slice Bo (d.objs.length + 1) ko) ∧ w'.cell? ⟨w.heap.size, 3, none⟩ = some (.slice A3 d.objs.length c3) ∧ w'.cell? ⟨g3, 4, none⟩ = some (.slice Bg (d.grps.length + 1) kg) ∧ w'.cell? ⟨w.heap.size, 4, none⟩ = some (.slice A4 d.grps.length c4)) (ds := [32]) #[false, false, false, false, false, false, false, false, false, false, false, false, false, false, false, false, false, false, false, false, false, false, false, false, false, false, false, false, false, false, false, false, false] (by kernel_rfl) rfl rfl ⟨xf0, xp0, xf1, xp1, xf2, xp2, xf3, xp3, xf4, xp4⟩ (fun hHeld => ?_)
    refine pure_ (i := 0) (N := some 99) (v := ?_) (a' := ?_) #[true, false, false, false, false, false, false, false, false, false, false, false, false, false, false, false, false, false, false, false, false, false, false, false, false, false, false, false, false, false, false, false, false] rfl rfl (by kernel_rfl) (fun _ _ _ h => h) (Or.inl ⟨by rfl, ?_⟩) ?_ ?_
    rotate_left
    ·intro w'
     go_simp
     with_reducible rfl
    rotate_left
    ·simp only [Act.put, List.setIfInBounds_toArray, List.set_cons_zero, List.set_cons_succ]
     rfl
    refine take_ (i := 1) (N := some 100) (v := ?_) (a' := ?_) #[true, true, false, false, false, false, false, false, false, false, false, false, false, false, false, false, false, false, false, false, false, false, false, false, false, false, false, false, false, false, false, false, false] rfl rfl (by kernel_rfl) (fun _ _ _ h => h) (Or.inl ⟨by rfl, ?_⟩) hHeld ?_ ?_
    rotate_left
    ·rintro w' ⟨f0, p0, f1, p1, f2, p2, f3, p3, f4, p4⟩
     go_simp
     with_reducible rfl
    rotate_left
    ·simp only [Act.put, List.setIfInBounds_toArray, List.set_cons_zero, List.set_cons_succ]
     rfl
    refine pure_ (i := 2) (N := some 101) (v := ?_) (a' := ?_) #[true, true, true, false, false, false, false, false, false, false, false, false, false, false, false, false, false, false, false, false, false, false, false, false, false, false, false, false, false, false, false, false, false] rfl rfl (by kernel_rfl) (fun _ _ _ h => h) (Or.inl ⟨by rfl, ?_⟩) ?_ ?_
    rotate_left
    ·intro w'
     go_simp
     with_reducible rfl
    rotate_left
    ·simp only [Act.put, List.setIfInBounds_toArray, List.set_cons_zero, List.set_cons_succ]
     rfl
    refine take_ (i := 3) (N := some 102) (v := ?_) (a' := ?_) #[true, true, true, true, false, false, false, false, false, false, false, false, false, false, false, false, false, false, false, false, false, false, false, false, false, false, false, false, false, false, false, false, false] rfl rfl (by kernel_rfl) (fun _ _ _ h => h) (Or.inl ⟨by rfl, ?_⟩) hHeld ?_ ?_
    rotate_left
    ·rintro w' ⟨f0, p0, f1, p1, f2, p2, f3, p3, f4, p4⟩
     go_simp
     with_reducible rfl
    rotate_left
    ·simp only [Act.put, List.setIfInBounds_toArray, List.set_cons_zero, List.set_cons_succ]
     rfl
    refine pure_ (i := 4) (N := some 103) (v := ?_) (a' := ?_) #[true, true, true, true, true, false, false, false, false, false, false, false, false, false, false, false, false, false, false, false, false, false, false, false, false, false, false, false, false, false, false, false, false] rfl rfl (by kernel_rfl) (fun _ _ _ h => h) (Or.inl ⟨by rfl, ?_⟩) ?_ ?_
    rotate_left
    ·intro w'
     go_simp
     with_reducible rfl
    rotate_left
    ·simp only [Act.put, List.setIfInBounds_toArray, List.set_cons_zero, List.set_cons_succ]
     rfl
    refine pure_ (i := 5) (N := some 104) (v := ?_) (a' := ?_) #[true, true, true, true, true, true, false, false, false, false, false, false, false, false, false, false, false, false, false, false, false, false, false, false, false, false, false, false, false, false, false, false, false] rfl rfl (by kernel_rfl) (fun _ _ _ h => h) (Or.inl ⟨by rfl, ?_⟩) ?_ ?_
    rotate_left
    ·intro w'
     go_simp
     with_reducible rfl
    rotate_left
    ·simp only [Act.put, List.setIfInBounds_toArray, List.set_cons_zero, List.set_cons_succ]
     rfl
    refine pure_ (i := 6) (N := some 105) (v := ?_) (a' := ?_) #[true, true, true, true, true, true, true, false, false, false, false, false, false, false, false, false, false, false, false, false, false, false, false, false, false, false, false, false, false, false, false, false, false] rfl rfl (by kernel_rfl) (fun _ _ _ h => h) (Or.inl ⟨by rfl, ?_⟩) ?_ ?_
    rotate_left
    ·intro w'
     go_simp
     with_reducible rfl
    rotate_left
    ·simp only [Act.put, List.setIfInBounds_toArray, List.set_cons_zero, List.set_cons_succ]
     rfl
    refine take_ (i := 7) (N := some 106) (v := ?_) (a' := ?_) #[true, true, true, true, true, true, true, true, false, false, false, false, false, false, false, false, false, false, false, false, false, false, false, false, false, false, false, false, false, false, false, false, false] rfl rfl (by kernel_rfl) (fun _ _ _ h => h) (Or.inl ⟨by rfl, ?_⟩) hHeld ?_ ?_
    rotate_left
    ·rintro w' ⟨f0, p0, f1, p1, f2, p2, f3, p3, f4, p4⟩
     go_simp
     with_reducible rfl
    rotate_left
    ·simp only [Act.put, List.setIfInBounds_toArray, List.set_cons_zero, List.set_cons_succ]
     rfl
    refine pure_ (i := 8) (N := some 107) (v := ?_) (a' := ?_) #[true, true, true, true, true, true, true, true, true, false, false, false, false, false, false, false, false, false, false, false, false, false, false, false, false, false, false, false, false, false, false, false, false] rfl rfl (by kernel_rfl) (fun _ _ _ h => h) (Or.inl ⟨by rfl, ?_⟩) ?_ ?_
    rotate_left
    ·intro w'
     go_simp
     with_reducible rfl
    rotate_left
    ·simp only [Act.put, List.setIfInBounds_toArray, List.set_cons_zero, List.set_cons_succ]
     rfl
    refine take_ (i := 9) (N := some 108) (v := ?_) (a' := ?_) #[true, true, true, true, true, true, true, true, true, true, false, false, false, false, false, false, false, false, false, false, false, false, false, false, false, false, false, false, false, false, false, false, false] rfl rfl (by kernel_rfl) (fun _ _ _ h => h) (Or.inl ⟨by rfl, ?_⟩) hHeld ?_ ?_
    rotate_left
    ·rintro w' ⟨f0, p0, f1, p1, f2, p2, f3, p3, f4, p4⟩
     go_simp
     with_reducible rfl
    rotate_left
    ·simp only [Act.put, List.setIfInBounds_toArray, List.set_cons_zero, List.set_cons_succ]
     rfl
    refine pure_ (i := 10) (N := some 109) (v := ?_) (a' := ?_) #[true, true, true, true, true, true, true, true, true, true, true, false, false, false, false, false, false, false, false, false, false, false, false, false, false, false, false, false, false, false, false, false, false] rfl rfl (by kernel_rfl) (fun _ _ _ h => h) (Or.inl ⟨by rfl, ?_⟩) ?_ ?_
    rotate_left
    ·intro w'
     go_simp
     with_reducible rfl
    rotate_left
    ·simp only [Act.put, List.setIfInBounds_toArray, List.set_cons_zero, List.set_cons_succ]
     rfl
    refine pure_ (i := 11) (N := some 110) (v := ?_) (a' := ?_) #[true, true, true, true, true, true, true, true, true, true, true, true, false, false, false, false, false, false, false, false, false, false, false, false, false, false, false, false, false, false, false, false, false] rfl rfl (by kernel_rfl) (fun _ _ _ h => h) (Or.inl ⟨by rfl, ?_⟩) ?_ ?_
    rotate_left
    ·intro w'
     go_simp
     with_reducible rfl
    rotate_left
    ·simp only [Act.put, List.setIfInBounds_toArray, List.set_cons_zero, List.set_cons_succ]
     rfl
    refine pure_ (i := 12) (N := some 111) (v := ?_) (a' := ?_) #[true, true, true, true, true, true, true, true, true, true, true, true, true, false, false, false, false, false, false, false, false, false, false, false, false, false, false, false, false, false, false, false, false] rfl rfl (by kernel_rfl) (fun _ _ _ h => h) (Or.inl ⟨by rfl, ?_⟩) ?_ ?_
    rotate_left
    ·intro w'
     go_simp
     with_reducible rfl
    rotate_left
    ·simp only [Act.put, List.setIfInBounds_toArray, List.set_cons_zero, List.set_cons_succ]
     rfl
    refine take_ (i := 13) (N := some 112) (v := ?_) (a' := ?_) #[true, true, true, true, true, true, true, true, true, true, true, true, true, true, false, false, false, false, false, false, false, false, false, false, false, false, false, false, false, false, false, false, false] rfl rfl (by kernel_rfl) (fun _ _ _ h => h) (Or.inl ⟨by rfl, ?_⟩) hHeld ?_ ?_
    rotate_left
    ·rintro w' ⟨f0, p0, f1, p1, f2, p2, f3, p3, f4, p4⟩
     go_simp
     with_reducible rfl
    rotate_left
    ·simp only [Act.put, List.setIfInBounds_toArray, List.set_cons_zero, List.set_cons_succ]
     rfl
    refine pure_ (i := 14) (N := some 113) (v := ?_) (a' := ?_) #[true, true, true, true, true, true, true, true, true, true, true, true, true, true, true, false, false, false, false, false, false, false, false, false, false, false, false, false, false, false, false, false, false] rfl rfl (by kernel_rfl) (fun _ _ _ h => h) (Or.inl ⟨by rfl, ?_⟩) ?_ ?_
    rotate_left
    ·intro w'
     go_simp
     with_reducible rfl
    rotate_left
    ·simp only [Act.put, List.setIfInBounds_toArray, List.set_cons_zero, List.set_cons_succ]
     rfl
    refine take_ (i := 15) (N := some 114) (v := ?_) (a' := ?_) #[true, true, true, true, true, true, true, true, true, true, true, true, true, true, true, true, false, false, false, false, false, false, false, false, false, false, false, false, false, false, false, false, false] rfl rfl (by kernel_rfl) (fun _ _ _ h => h) (Or.inl ⟨by rfl, ?_⟩) hHeld ?_ ?_
    rotate_left
    ·rintro w' ⟨f0, p0, f1, p1, f2, p2, f3, p3, f4, p4⟩
     go_simp
     with_reducible rfl
    rotate_left
    ·simp only [Act.put, List.setIfInBounds_toArray, List.set_cons_zero, List.set_cons_succ]
     rfl
    refine pure_ (i := 16) (N := some 115) (v := ?_) (a' := ?_) #[true, true, true, true, true, true, true, true, true, true, true, true, true, true, true, true, true, false, false, false, false, false, false, false, false, false, false, false, false, false, false, false, false] rfl rfl (by kernel_rfl) (fun _ _ _ h => h) (Or.inl ⟨by rfl, ?_⟩) ?_ ?_
    rotate_left
    ·intro w'
     go_simp
     with_reducible rfl
    rotate_left
    ·simp only [Act.put, List.setIfInBounds_toArray, List.set_cons_zero, List.set_cons_succ]
     rfl
    refine pure_ (i := 17) (N := some 116) (v := ?_) (a' := ?_) #[true, true, true, true, true, true, true, true, true, true, true, true, true, true, true, true, true, true, false, false, false, false, false, false, false, false, false, false, false, false, false, false, false] rfl rfl (by kernel_rfl) (fun _ _ _ h => h) (Or.inl ⟨by rfl, ?_⟩) ?_ ?_
    rotate_left
    ·intro w'
     go_simp
     with_reducible rfl
    rotate_left
    ·simp only [Act.put, List.setIfInBounds_toArray, List.set_cons_zero, List.set_cons_succ]
     rfl
    refine pure_ (i := 18) (N := some 117) (v := ?_) (a' := ?_) #[true, true, true, true, true, true, true, true, true, true, true, true, true, true, true, true, true, true, true, false, false, false, false, false, false, false, false, false, false, false, false, false, false] rfl rfl (by kernel_rfl) (fun _ _ _ h => h) (Or.inl ⟨by rfl, ?_⟩) ?_ ?_
    rotate_left
    ·intro w'
     go_simp
     with_reducible rfl
    rotate_left
    ·simp only [Act.put, List.setIfInBounds_toArray, List.set_cons_zero, List.set_cons_succ]
     rfl
    refine take_ (i := 19) (N := some 118) (v := ?_) (a' := ?_) #[true, true, true, true, true, true, true, true, true, true, true, true, true, true, true, true, true, true, true, true, false, false, false, false, false, false, false, false, false, false, false, false, false] rfl rfl (by kernel_rfl) (fun _ _ _ h => h) (Or.inl ⟨by rfl, ?_⟩) hHeld ?_ ?_
    rotate_left
    ·rintro w' ⟨f0, p0, f1, p1, f2, p2, f3, p3, f4, p4⟩
     go_simp
     with_reducible rfl
    rotate_left
    ·simp only [Act.put, List.setIfInBounds_toArray, List.set_cons_zero, List.set_cons_succ]
     rfl
    refine pure_ (i := 20) (N := some 119) (v := ?_) (a' := ?_) #[true, true, true, true, true, true, true, true, true, true, true, true, true, true, true, true, true, true, true, true, true, false, false, false, false, false, false, false, false, false, false, false, false] rfl rfl (by kernel_rfl) (fun _ _ _ h => h) (Or.inl ⟨by rfl, ?_⟩) ?_ ?_
    rotate_left
    ·intro w'
     go_simp
     with_reducible rfl
    rotate_left
    ·simp only [Act.put, List.setIfInBounds_toArray, List.set_cons_zero, List.set_cons_succ]
     rfl
    refine take_ (i := 21) (N := some 120) (v := ?_) (a' := ?_) #[true, true, true, true, true, true, true, true, true, true, true, true, true, true, true, true, true, true, true, true, true, true, false, false, false, false, false, false, false, false, false, false, false] rfl rfl (by kernel_rfl) (fun _ _ _ h => h) (Or.inl ⟨by rfl, ?_⟩) hHeld ?_ ?_
    rotate_left
    ·rintro w' ⟨f0, p0, f1, p1, f2, p2, f3, p3, f4, p4⟩
     go_simp
     with_reducible rfl
    rotate_left
    ·simp only [Act.put, List.setIfInBounds_toArray, List.set_cons_zero, List.set_cons_succ]
     rfl
    refine pure_ (i := 22) (N := some 121) (v := ?_) (a' := ?_) #[true, true, true, true, true, true, true, true, true, true, true, true, true, true, true, true, true, true, true, true, true, true, true, false, false, false, false, false, false, false, false, false, false] rfl rfl (by kernel_rfl) (fun _ _ _ h => h) (Or.inl ⟨by rfl, ?_⟩) ?_ ?_
    rotate_left
    ·intro w'
     go_simp
     with_reducible rfl
    rotate_left
    ·simp only [Act.put, List.setIfInBounds_toArray, List.set_cons_zero, List.set_cons_succ]
     rfl
    refine pure_ (i := 23) (N := some 122) (v := ?_) (a' := ?_) #[true, true, true, true, true, true, true, true, true, true, true, true, true, true, true, true, true, true, true, true, true, true, true, true, false, false, false, false, false, false, false, false, false] rfl rfl (by kernel_rfl) (fun _ _ _ h => h) (Or.inl ⟨by rfl, ?_⟩) ?_ ?_
    rotate_left
    ·intro w'
     go_simp
     with_reducible rfl
    rotate_left
    ·simp only [Act.put, List.setIfInBounds_toArray, List.set_cons_zero, List.set_cons_succ]
     rfl
    refine pure_ (i := 24) (N := some 123) (v := ?_) (a' := ?_) #[true, true, true, true, true, true, true, true, true, true, true, true, true, true, true, true, true, true, true, true, true, true, true, true, true, false, false, false, false, false, false, false, false] rfl rfl (by kernel_rfl) (fun _ _ _ h => h) (Or.inl ⟨by rfl, ?_⟩) ?_ ?_
    rotate_left
    ·intro w'
     go_simp
     with_reducible rfl
    rotate_left
    ·simp only [Act.put, List.setIfInBounds_toArray, List.set_cons_zero, List.set_cons_succ]
     rfl
    refine take_ (i := 25) (N := some 124) (v := ?_) (a' := ?_) #[true, true, true, true, true, true, true, true, true, true, true, true, true, true, true, true, true, true, true, true, true, true, true, true, true, true, false, false, false, false, false, false, false] rfl rfl (by kernel_rfl) (fun _ _ _ h => h) (Or.inl ⟨by rfl, ?_⟩) hHeld ?_ ?_
    rotate_left
    ·rintro w' ⟨f0, p0, f1, p1, f2, p2, f3, p3, f4, p4⟩
     go_simp
     with_reducible rfl
    rotate_left
    ·simp only [Act.put, List.setIfInBounds_toArray, List.set_cons_zero, List.set_cons_succ]
     rfl
    refine pure_ (i := 26) (N := some 125) (v := ?_) (a' := ?_) #[true, true, true, true, true, true, true, true, true, true, true, true, true, true, true, true, true, true, true, true, true, true, true, true, true, true, true, false, false, false, false, false, false] rfl rfl (by kernel_rfl) (fun _ _ _ h => h) (Or.inl ⟨by rfl, ?_⟩) ?_ ?_
    rotate_left
    ·intro w'
     go_simp
     with_reducible rfl
    rotate_left
    ·simp only [Act.put, List.setIfInBounds_toArray, List.set_cons_zero, List.set_cons_succ]
     rfl
    refine take_ (i := 27) (N := some 126) (v := ?_) (a' := ?_) #[true, true, true, true, true, true, true, true, true, true, true, true, true, true, true, true, true, true, true, true, true, true, true, true, true, true, true, true, false, false, false, false, false] rfl rfl (by kernel_rfl) (fun _ _ _ h => h) (Or.inl ⟨by rfl, ?_⟩) hHeld ?_ ?_
    rotate_left
    ·rintro w' ⟨f0, p0, f1, p1, f2, p2, f3, p3, f4, p4⟩
     go_simp
     with_reducible rfl
    rotate_left
    ·simp only [Act.put, List.setIfInBounds_toArray, List.set_cons_zero, List.set_cons_succ]
     rfl
    refine pure_ (i := 28) (N := some 127) (v := ?_) (a' := ?_) #[true, true, true, true, true, true, true, true, true, true, true, true, true, true, true, true, true, true, true, true, true, true, true, true, true, true, true, true, true, false, false, false, false] rfl rfl (by kernel_rfl) (fun _ _ _ h => h) (Or.inl ⟨by rfl, ?_⟩) ?_ ?_
    rotate_left
    ·intro w'
     go_simp
     with_reducible rfl
    rotate_left
    ·simp only [Act.put, List.setIfInBounds_toArray, List.set_cons_zero, List.set_cons_succ]
     rfl
    refine pure_ (i := 29) (N := some 128) (v := ?_) (a' := ?_) #[true, true, true, true, true, true, true, true, true, true, true, true, true, true, true, true, true, true, true, true, true, true, true, true, true, true, true, true, true, true, false, false, false] rfl rfl (by kernel_rfl) (fun _ _ _ h => h) (Or.inl ⟨by rfl, ?_⟩) ?_ ?_
    rotate_left
    ·intro w'
     go_simp
     with_reducible rfl
    rotate_left
    ·simp only [Act.put, List.setIfInBounds_toArray, List.set_cons_zero, List.set_cons_succ]
     rfl
    refine pure_ (i := 30) (N := some 129) (v := ?_) (a' := ?_) #[true, true, true, true, true, true, true, true, true, true, true, true, true, true, true, true, true, true, true, true, true, true, true, true, true, true, true, true, true, true, true, false, false] rfl rfl (by kernel_rfl) (fun _ _ _ h => h) (Or.inl ⟨by rfl, ?_⟩) ?_ ?_
    rotate_left
    ·intro w'
     have hz := z28
     go_simp
     with_reducible rfl
    rotate_left
    ·simp only [Act.put, List.setIfInBounds_toArray, List.set_cons_zero, List.set_cons_succ]
     rfl
    refine one_ (i := 31) (N := some 8) #[true, true, true, true, true, true, true, true, true, true, true, true, true, true, true, true, true, true, true, true, true, true, true, true, true, true, true, true, true, true, true, true, false] rfl rfl (by kernel_rfl) (by decide) (fun K hK => ?_)
    refine KBase.step_run (w' := World.alloc wc.drew (.cells #[.slice none 0 0, .slice none 0 0, .slice none 0 0, .slice none 0 0, .slice none 0 0, .slice none 0 0, .slice none 0 0, .slice none 0 0, .slice none 0 0, .slice none 0 0, .slice none 0 0] 28)) (v := .pointer (some ⟨wc.drew.heap.size, 0, none⟩)) rfl rfl (by have hz := z28; go_simp) ?_
    have hb8 := below_alloc (Below.refl _ wc.drew) (.cells #[.slice none 0 0, .slice none 0 0, .slice none 0 0, .slice none 0 0, .slice none 0 0, .slice none 0 0, .slice none 0 0, .slice none 0 0, .slice none 0 0, .slice none 0 0, .slice none 0 0] 28)
    have hs8 : Stays (World.alloc wc.drew (.cells #[.slice none 0 0, .slice none 0 0, .slice none 0 0, .slice none 0 0, .slice none 0 0, .slice none 0 0, .slice none 0 0, .slice none 0 0, .slice none 0 0, .slice none 0 0, .slice none 0 0] 28)) wc.drew.heap.size #[.slice none 0 0, .slice none 0 0, .slice none 0 0, .slice none 0 0, .slice none 0 0, .slice none 0 0, .slice none 0 0, .slice none 0 0, .slice none 0 0, .slice none 0 0, .slice none 0 0] 28 := heap_alloc_new wc.drew _
    have hT8 := (HT.out.move (below_drew (Below.refl wc.heap.size wc))).move hb8
    have h83 : g3 < wc.drew.heap.size := (Array.getElem?_eq_some_iff.1 HT.out.f).1
    have h8v : gv < wc.drew.heap.size := (Array.getElem?_eq_some_iff.1 HT.out.res).1
    have h8b : w.heap.size < wc.drew.heap.size := (Array.getElem?_eq_some_iff.1 HT.out.box).1
    have hH8 : (fun w' => w'.cell? ⟨g3, 0, none⟩ = some (.slice Ba (d.acts.length + 1) ka) ∧ w'.cell? ⟨w.heap.size, 0, none⟩ = some (.slice A0 d.acts.length c0) ∧ w'.cell? ⟨g3, 1, none⟩ = some (.slice C1 (d.subs.length + 1) j1) ∧ w'.cell? ⟨w.heap.size, 1, none⟩ = some (.slice A1 d.subs.length c1) ∧ w'.cell? ⟨g3, 2, none⟩ = some (.slice Br (d.roles.length + 1) kr) ∧ w'.cell? ⟨w.heap.size, 2, none⟩ = some (.slice A2 d.roles.length c2) ∧ w'.cell? ⟨g3, 3, none⟩ = some (.slice Bo (d.objs.length + 1) ko) ∧ w'.cell? ⟨w.heap.size, 3, none⟩ = some (.slice A3 d.objs.length c3) ∧ w'.cell? ⟨g3, 4, none⟩ = some (.slice Bg (d.grps.length + 1) kg) ∧ w'.cell? ⟨w.heap.size, 4, none⟩ = some (.slice A4 d.grps.length c4)) (World.alloc wc.drew (.cells #[.slice none 0 0, .slice none 0 0, .slice none 0 0, .slice none 0 0, .slice none 0 0, .slice none 0 0, .slice none 0 0, .slice none 0 0, .slice none 0 0, .slice none 0 0, .slice none 0 0] 28)) := ⟨pw_cell_below hb8 xf0, pw_cell_below hb8 xp0, pw_cell_below hb8 xf1, pw_cell_below hb8 xp1, pw_cell_below hb8 xf2, pw_cell_below hb8 xp2, pw_cell_below hb8 xf3, pw_cell_below hb8 xp3, pw_cell_below hb8 xf4, pw_cell_below hb8 xp4⟩
    obtain ⟨g8, hg8⟩ : ∃ g8, g8 = wc.drew.heap.size := ⟨_, rfl⟩
    rw [← hg8] at hs8 h83 h8v h8b ⊢
    have HN8 := Aside0.mk (And.intro h83 (And.intro h8v h8b))
    have HS8 := Aside0.mk hs8
    have HT8 := Aside0.mk hT8
    clear hs8 hT8 h83 h8v h8b hb8 hg8 hHeld
    generalize World.alloc wc.drew (.cells #[.slice none 0 0, .slice none 0 0, .slice none 0 0, .slice none 0 0, .slice none 0 0, .slice none 0 0, .slice none 0 0, .slice none 0 0, .slice none 0 0, .slice none 0 0, .slice none 0 0] 28) = W8 at HS8 HT8 hH8 ⊢
    refine hK.out _ _ hH8 (fun hHeld => ?_)
    clear hK K hH8 hHeld
    refine norm_ (a' := ?_) ?_ ?_
    rotate_left
    ·show Act.put _ (some 8) _ = _
     simp only [Act.put, List.setIfInBounds_toArray, List.set_cons_zero, List.set_cons_succ]
     rfl
    refine last_ (i := 32) (N := none) #[true, true, true, true, true, true, true, true, true, true, true, true, true, true, true, true, true, true, true, true, true, true, true, true, true, true, true, true, true, true, true, true, true] rfl rfl (by kernel_rfl) (by decide) (fun K hK => ?_)
    have hst := run_storeAt_mid (P := Try.prog) W8 g8 0 28 #[.slice Ba d.acts.length ka, .slice C1 d.subs.length j1, .slice Br d.roles.length kr, .slice Bo d.objs.length ko, .slice Bg d.grps.length kg, .slice none 0 0, .slice none 0 0, .slice none 0 0, .slice none 0 0, .slice none 0 0, .slice none 0 0] (Stays.there (cs := #[.slice none 0 0, .slice none 0 0, .slice none 0 0, .slice none 0 0, .slice none 0 0, .slice none 0 0, .slice none 0 0, .slice none 0 0, .slice none 0 0, .slice none 0 0, .slice none 0 0]) HS8.out) i28 (by simp [Value.oneCell'])
    refine KBase.step_skip (w' := World.setCells W8 g8 0 (#[.slice Ba d.acts.length ka, .slice C1 d.subs.length j1, .slice Br d.roles.length kr, .slice Bo d.objs.length ko, .slice Bg d.grps.length kg, .slice none 0 0, .slice none 0 0, .slice none 0 0, .slice none 0 0, .slice none 0 0, .slice none 0 0] : Array Value).toList) rfl rfl (by first | (simp [execOp, Act.eval, hst]; done) | (show Sem.run Try.prog _ _ = _; simp only [execOp, Act.eval]; simp; rw [hst]; rfl)) ?_
    refine hK.out _ _ ?_
    clear hK K hst
    refine done_ (by kernel_rfl) ?_
    have hT9 := HT8.out.sets HS8.out (#[.slice Ba d.acts.length ka, .slice C1 d.subs.length j1, .slice Br d.roles.length kr, .slice Bo d.objs.length ko, .slice Bg d.grps.length kg, .slice none 0 0, .slice none 0 0, .slice none 0 0, .slice none 0 0, .slice none 0 0, .slice none 0 0] : Array Value).toList (by have := HN8.out.2.2; omega) (by have := HN8.out.2.1; omega) (by have := HN8.out.1; omega) (by have := HN8.out.2.2; omega) rfl
    have hG9 := setCells_var (vs := #[.slice Ba d.acts.length ka, .slice C1 d.subs.length j1, .slice Br d.roles.length kr, .slice Bo d.objs.length ko, .slice Bg d.grps.length kg, .slice none 0 0, .slice none 0 0, .slice none 0 0, .slice none 0 0, .slice none 0 0, .slice none 0 0]) HS8.out rfl
    clear HT8 HS8 HT
    generalize World.setCells W8 g8 0 (#[.slice Ba d.acts.length ka, .slice C1 d.subs.length j1, .slice Br d.roles.length kr, .slice Bo d.objs.length ko, .slice Bg d.grps.length kg, .slice none 0 0, .slice none 0 0, .slice none 0 0, .slice none 0 0, .slice none 0 0, .slice none 0 0] : Array Value).toList = wc at hT9 hG9 ⊢
    have HT := Aside0.mk hT9
    have HG := Aside0.mk hG9
    clear hT9 hG9
    clear hcap0 xf0 xp0 hcap1 xf1 xp1 hcap2 xf2 xp2 hcap3 xf3 xp3 hcap4 xf4 xp4
    have hcap5 : (d.mem.length : Int) ≤ k5 := by have h := (Kd.R_reads' (HT.out.all.get 7 rfl : Kd.R k59 59 wc w.heap.size (fun _ => True) (.slice B5 (d.mem.length + 1) k5) _)).2.1; omega
    have xf5 := HT.out.f.cell 5
    have xp5 := HT.out.box.cell 5
    simp only [qV, List.getElem?_toArray, List.getElem?_cons_zero, List.getElem?_cons_succ] at xf5 xp5
    have xg := HG.out.cell 5
    have yg := blk_frozen HG.out 5
    simp only [List.getElem?_toArray, List.getElem?_cons_zero, List.getElem?_cons_succ] at xg
    go_upto_region 22 with fail
    clear xg yg hcap5 xf5 xp5
    have hT := HT.out.var (j := 5) HG.out (.slice B5 d.mem.length k5) (by have := HN8.out.2.2; omega) (by have := HN8.out.2.1; omega) (by have := HN8.out.1; omega) (by have := HN8.out.2.2; omega) rfl
    have hG := stays_set HG.out 5 (.slice B5 d.mem.length k5)
    simp only [List.setIfInBounds_toArray, List.set_cons_zero, List.set_cons_succ] at hG
    clear HT HG
    generalize World.setCell wc ⟨g8, 5, none⟩ (.slice B5 d.mem.length k5) = wc at hT hG ⊢
    have HT := Aside0.mk hT
    have HG := Aside0.mk hG
    clear hT hG
    have hcap6 : (d.inh.length : Int) ≤ k6 := by have h := (Kd.R_reads' (HT.out.all.get 6 rfl : Kd.R k59 59 wc w.heap.size (fun _ => True) (.slice B6 (d.inh.length + 1) k6) _)).2.1; omega
    have xf6 := HT.out.f.cell 6
    have xp6 := HT.out.box.cell 6
    simp only [qV, List.getElem?_toArray, List.getElem?_cons_zero, List.getElem?_cons_succ] at xf6 xp6
    have xg := HG.out.cell 6
    have yg := blk_frozen HG.out 6
    simp only [List.getElem?_toArray, List.getElem?_cons_zero, List.getElem?_cons_succ] at xg
    go_upto_region 23 with fail
    clear xg yg hcap6 xf6 xp6
    have hT := HT.out.var (j := 6) HG.out (.slice B6 d.inh.length k6) (by have := HN8.out.2.2; omega) (by have := HN8.out.2.1; omega) (by have := HN8.out.1; omega) (by have := HN8.out.2.2; omega) rfl
    have hG := stays_set HG.out 6 (.slice B6 d.inh.length k6)
    simp only [List.setIfInBounds_toArray, List.set_cons_zero, List.set_cons_succ] at hG
    clear HT HG
    generalize World.setCell wc ⟨g8, 6, none⟩ (.slice B6 d.inh.length k6) = wc at hT hG ⊢
    have HT := Aside0.mk hT
    have HG := Aside0.mk hG
    clear hT hG
    have hcap7 : (d.par.length : Int) ≤ k7 := by have h := (Kd.R_reads' (HT.out.all.get 5 rfl : Kd.R k59 59 wc w.heap.size (fun _ => True) (.slice B7 (d.par.length + 1) k7) _)).2.1; omega
    have xf7 := HT.out.f.cell 7
    have xp7 := HT.out.box.cell 7
    simp only [qV, List.getElem?_toArray, List.getElem?_cons_zero, List.getElem?_cons_succ] at xf7 xp7
    have xg := HG.out.cell 7
    have yg := blk_frozen HG.out 7
    simp only [List.getElem?_toArray, List.getElem?_cons_zero, List.getElem?_cons_succ] at xg
    go_upto_region 24 with fail
    clear xg yg hcap7 xf7 xp7
    have hT := HT.out.var (j := 7) HG.out (.slice B7 d.par.length k7) (by have := HN8.out.2.2; omega) (by have := HN8.out.2.1; omega) (by have := HN8.out.1; omega) (by have := HN8.out.2.2; omega) rfl
    have hG := stays_set HG.out 7 (.slice B7 d.par.length k7)
    simp only [List.setIfInBounds_toArray, List.set_cons_zero, List.set_cons_succ] at hG
    clear HT HG
    generalize World.setCell wc ⟨g8, 7, none⟩ (.slice B7 d.par.length k7) = wc at hT hG ⊢
    have HT := Aside0.mk hT
    have HG := Aside0.mk hG
    clear hT hG
    have hcap8 : (d.wit.length : Int) ≤ k8 := by have h := (Kd.R_reads' (HT.out.all.get 4 rfl : Kd.R k59 59 wc w.heap.size (fun _ => True) (.slice B8 (d.wit.length + 1) k8) _)).2.1; omega
    have xf8 := HT.out.f.cell 8
    have xp8 := HT.out.box.cell 8
    simp only [qV, List.getElem?_toArray, List.getElem?_cons_zero, List.getElem?_cons_succ] at xf8 xp8
    have xg := HG.out.cell 8
    have yg := blk_frozen HG.out 8
    simp only [List.getElem?_toArray, List.getElem?_cons_zero, List.getElem?_cons_succ] at xg
    go_upto_region 25 with fail
    clear xg yg hcap8 xf8 xp8
    have hT := HT.out.var (j := 8) HG.out (.slice B8 d.wit.length k8) (by have := HN8.out.2.2; omega) (by have := HN8.out.2.1; omega) (by have := HN8.out.1; omega) (by have := HN8.out.2.2; omega) rfl
    have hG := stays_set HG.out 8 (.slice B8 d.wit.length k8)
    simp only [List.setIfInBounds_toArray, List.set_cons_zero, List.set_cons_succ] at hG
    clear HT HG
    generalize World.setCell wc ⟨g8, 8, none⟩ (.slice B8 d.wit.length k8) = wc at hT hG ⊢
    have HT := Aside0.mk hT
    have HG := Aside0.mk hG
    clear hT hG
    have hcap9 : (d.rules.length : Int) ≤ j9 := by have h := (Kd.R_reads' (HT.out.all.get 1 rfl : Kd.R (Kd.raw 6) 51 wc w.heap.size (fun _ => True) (.slice C9 (d.rules.length + 1) j9) _)).2.1; omega
    have xf9 := HT.out.f.cell 9
    have xp9 := HT.out.box.cell 9
    simp only [qV, List.getElem?_toArray, List.getElem?_cons_zero, List.getElem?_cons_succ] at xf9 xp9
    have xg := HG.out.cell 9
    have yg := blk_frozen HG.out 9
    simp only [List.getElem?_toArray, List.getElem?_cons_zero, List.getElem?_cons_succ] at xg
    go_upto_region 26 with fail
    clear xg yg hcap9 xf9 xp9
    have hT := HT.out.var (j := 9) HG.out (.slice C9 d.rules.length j9) (by have := HN8.out.2.2; omega) (by have := HN8.out.2.1; omega) (by have := HN8.out.1; omega) (by have := HN8.out.2.2; omega) rfl
    have hG := stays_set HG.out 9 (.slice C9 d.rules.length j9)
    simp only [List.setIfInBounds_toArray, List.set_cons_zero, List.set_cons_succ] at hG
    clear HT HG
    generalize World.setCell wc ⟨g8, 9, none⟩ (.slice C9 d.rules.length j9) = wc at hT hG ⊢
    have HT := Aside0.mk hT
    have HG := Aside0.mk hG
    clear hT hG
    have hcap10 : (d.exc.length : Int) ≤ j10 := by have h := (Kd.R_reads' (HT.out.all.get 0 rfl : Kd.R k53 53 wc w.heap.size (fun _ => True) (.slice C10 (d.exc.length + 1) j10) _)).2.1; omega
    have xf10 := HT.out.f.cell 10
    have xp10 := HT.out.box.cell 10
    simp only [qV, List.getElem?_toArray, List.getElem?_cons_zero, List.getElem?_cons_succ] at xf10 xp10
    have xg := HG.out.cell 10
    have yg := blk_frozen HG.out 10
    simp only [List.getElem?_toArray, List.getElem?_cons_zero, List.getElem?_cons_succ] at xg
    go_upto_region 27 with fail
    clear xg yg hcap10 xf10 xp10
    have hT := HT.out.var (j := 10) HG.out (.slice C10 d.exc.length j10) (by have := HN8.out.2.2; omega) (by have := HN8.out.2.1; omega) (by have := HN8.out.1; omega) (by have := HN8.out.2.2; omega) rfl
    have hG := stays_set HG.out 10 (.slice C10 d.exc.length j10)
    simp only [List.setIfInBounds_toArray, List.set_cons_zero, List.set_cons_succ] at hG
    clear HT HG
    generalize World.setCell wc ⟨g8, 10, none⟩ (.slice C10 d.exc.length j10) = wc at hT hG ⊢
    have HT := Aside0.mk hT
    have HG := Aside0.mk hG
    clear hT hG
    have HF := Aside0.mk (show Stays wc g3 #[.slice Ba (d.acts.length + 1) ka, .slice C1 (d.subs.length + 1) j1, .slice Br (d.roles.length + 1) kr, .slice Bo (d.objs.length + 1) ko, .slice Bg (d.grps.length + 1) kg, .slice B5 (d.mem.length + 1) k5, .slice B6 (d.inh.length + 1) k6, .slice B7 (d.par.length + 1) k7, .slice B8 (d.wit.length + 1) k8, .slice C9 (d.rules.length + 1) j9, .slice C10 (d.exc.length + 1) j10] 28 from HT.out.f)
    go_wp2_with (first | ((with_reducible refine gate_dst (N := 172) rfl ?_); refine wpList_load_blk rfl 28 (.tmp 8) rfl g8 ?hx1 #[.slice Ba d.acts.length ka, .slice C1 d.subs.length j1, .slice Br d.roles.length kr, .slice Bo d.objs.length ko, .slice Bg d.grps.length kg, .slice B5 d.mem.length k5, .slice B6 d.inh.length k6, .slice B7 d.par.length k7, .slice B8 d.wit.length k8, .slice C9 d.rules.length j9, .slice C10 d.exc.length j10] 28 HG.out _ Try.underlying28 rfl (by kernel_rfl) ?_; (case hx1 => rfl)) | ((with_reducible refine gate_dst (N := 173) rfl ?_); refine wpList_load_blk rfl 28 (.tmp 3) rfl g3 ?hx2 #[.slice Ba (d.acts.length + 1) ka, .slice C1 (d.subs.length + 1) j1, .slice Br (d.roles.length + 1) kr, .slice Bo (d.objs.length + 1) ko, .slice Bg (d.grps.length + 1) kg, .slice B5 (d.mem.length + 1) k5, .slice B6 (d.inh.length + 1) k6, .slice B7 (d.par.length + 1) k7, .slice B8 (d.wit.length + 1) k8, .slice C9 (d.rules.length + 1) j9, .slice C10 (d.exc.length + 1) j10] 28 HF.out _ Try.underlying28 rfl (by kernel_rfl) ?_; (case hx2 => rfl)) | ((with_reducible refine gate_store (t := 33) (p := 2) (v := .tmp 175) rfl ?_); refine wpList_store_var rfl 33 (.tmp 2) (.tmp 175) rfl gv #[.slice Ba d.acts.length ka, .slice C1 d.subs.length j1, .slice Br d.roles.length kr, .slice Bo d.objs.length ko, .slice Bg d.grps.length kg, .slice B5 d.mem.length k5, .slice B6 d.inh.length k6, .slice B7 d.par.length k7, .slice B8 d.wit.length k8, .slice C9 d.rules.length j9, .slice C10 d.exc.length j10, .slice Ba (d.acts.length + 1) ka, .slice C1 (d.subs.length + 1) j1, .slice Br (d.roles.length + 1) kr, .slice Bo (d.objs.length + 1) ko, .slice Bg (d.grps.length + 1) kg, .slice B5 (d.mem.length + 1) k5, .slice B6 (d.inh.length + 1) k6, .slice B7 (d.par.length + 1) k7, .slice B8 (d.wit.length + 1) k8, .slice C9 (d.rules.length + 1) j9, .slice C10 (d.exc.length + 1) j10, .slice Bl d.rules.length kl] ?hx3 ?hy3 HT.out.res rfl (by kernel_rfl) (by simp [Value.oneCell']) ?_; (case hx3 => rfl); (case hy3 => rfl)))
    (try simp only [Exit.inBlock, Exit.then])
    have hres := setCells_var (vs := #[.slice Ba d.acts.length ka, .slice C1 d.subs.length j1, .slice Br d.roles.length kr, .slice Bo d.objs.length ko, .slice Bg d.grps.length kg, .slice B5 d.mem.length k5, .slice B6 d.inh.length k6, .slice B7 d.par.length k7, .slice B8 d.wit.length k8, .slice C9 d.rules.length j9, .slice C10 d.exc.length j10, .slice Ba (d.acts.length + 1) ka, .slice C1 (d.subs.length + 1) j1, .slice Br (d.roles.length + 1) kr, .slice Bo (d.objs.length + 1) ko, .slice Bg (d.grps.length + 1) kg, .slice B5 (d.mem.length + 1) k5, .slice B6 (d.inh.length + 1) k6, .slice B7 (d.par.length + 1) k7, .slice B8 (d.wit.length + 1) k8, .slice C9 (d.rules.length + 1) j9, .slice C10 (d.exc.length + 1) j10, .slice Bl d.rules.length kl]) HT.out.res rfl
    refine bodyPost_ret (results_single rfl (.cell gv 33 #[.slice Ba d.acts.length ka, .slice C1 d.subs.length j1, .slice Br d.roles.length kr, .slice Bo d.objs.length ko, .slice Bg d.grps.length kg, .slice B5 d.mem.length k5, .slice B6 d.inh.length k6, .slice B7 d.par.length k7, .slice B8 d.wit.length k8, .slice C9 d.rules.length j9, .slice C10 d.exc.length j10, .slice Ba (d.acts.length + 1) ka, .slice C1 (d.subs.length + 1) j1, .slice Br (d.roles.length + 1) kr, .slice Bo (d.objs.length + 1) ko, .slice Bg (d.grps.length + 1) kg, .slice B5 (d.mem.length + 1) k5, .slice B6 (d.inh.length + 1) k6, .slice B7 (d.par.length + 1) k7, .slice B8 (d.wit.length + 1) k8, .slice C9 (d.rules.length + 1) j9, .slice C10 (d.exc.length + 1) j10, .slice Bl d.rules.length kl] (0, 0) _ rfl hres Try.underlying33 rfl (by kernel_rfl) .nil)) rfl ?_
    have hall := HT.out.all.only (Only.sets HT.out.res (#[.slice Ba d.acts.length ka, .slice C1 d.subs.length j1, .slice Br d.roles.length kr, .slice Bo d.objs.length ko, .slice Bg d.grps.length kg, .slice B5 d.mem.length k5, .slice B6 d.inh.length k6, .slice B7 d.par.length k7, .slice B8 d.wit.length k8, .slice C9 d.rules.length j9, .slice C10 d.exc.length j10, .slice Ba (d.acts.length + 1) ka, .slice C1 (d.subs.length + 1) j1, .slice Br (d.roles.length + 1) kr, .slice Bo (d.objs.length + 1) ko, .slice Bg (d.grps.length + 1) kg, .slice B5 (d.mem.length + 1) k5, .slice B6 (d.inh.length + 1) k6, .slice B7 (d.par.length + 1) k7, .slice B8 (d.wit.length + 1) k8, .slice C9 (d.rules.length + 1) j9, .slice C10 (d.exc.length + 1) j10, .slice Bl d.rules.length kl] : Array Value).toList) rfl
    have hbel := setCells_below HT.out.below (Nat.le_of_lt HGV.out) (#[.slice Ba d.acts.length ka, .slice C1 d.subs.length j1, .slice Br d.roles.length kr, .slice Bo d.objs.length ko, .slice Bg d.grps.length kg, .slice B5 d.mem.length k5, .slice B6 d.inh.length k6, .slice B7 d.par.length k7, .slice B8 d.wit.length k8, .slice C9 d.rules.length j9, .slice C10 d.exc.length j10, .slice Ba (d.acts.length + 1) ka, .slice C1 (d.subs.length + 1) j1, .slice Br (d.roles.length + 1) kr, .slice Bo (d.objs.length + 1) ko, .slice Bg (d.grps.length + 1) kg, .slice B5 (d.mem.length + 1) k5, .slice B6 (d.inh.length + 1) k6, .slice B7 (d.par.length + 1) k7, .slice B8 (d.wit.length + 1) k8, .slice C9 (d.rules.length + 1) j9, .slice C10 (d.exc.length + 1) j10, .slice Bl d.rules.length kl] : Array Value).toList
    clear hres HT HG HF
    generalize World.setCells wc gv 0 (#[.slice Ba d.acts.length ka, .slice C1 d.subs.length j1, .slice Br d.roles.length kr, .slice Bo d.objs.length ko, .slice Bg d.grps.length kg, .slice B5 d.mem.length k5, .slice B6 d.inh.length k6, .slice B7 d.par.length k7, .slice B8 d.wit.length k8, .slice C9 d.rules.length j9, .slice C10 d.exc.length j10, .slice Ba (d.acts.length + 1) ka, .slice C1 (d.subs.length + 1) j1, .slice Br (d.roles.length + 1) kr, .slice Bo (d.objs.length + 1) ko, .slice Bg (d.grps.length + 1) kg, .slice B5 (d.mem.length + 1) k5, .slice B6 (d.inh.length + 1) k6, .slice B7 (d.par.length + 1) k7, .slice B8 (d.wit.length + 1) k8, .slice C9 (d.rules.length + 1) j9, .slice C10 (d.exc.length + 1) j10, .slice Bl d.rules.length kl] : Array Value).toList = wf at hall hbel ⊢
    exact ⟨d, Ba, ka, C1, j1, Br, kr, Bo, ko, Bg, kg, B5, k5, B6, k6, B7, k7, B8, k8, C9, j9, C10, j10, Bl, kl, T, rfl, rfl, HTM.out, hall, hbel⟩
end Go.Proofs.Ytacggjhgdkkclaa.KRoom
