/- Several texts of this session in one file, in their build order: CTwin, BPolicy2, CSays, CAlive, PGx36, CLSays, CSpell. -/
import Derived.Test.YthaiodklfoegiaaZOne3
import Derived.Test.YthaiodklfoegiaaZOne1
import Derived.Test.YthaiodklfoegiaaZOne2
/- gatehouselaw11.twin, walked. -/
namespace Go.Proofs.Ythaiodklfoegiaa.CTwin
open Go.RowKit Go.Proofs.YthaiodklfoegiaaW.PrintWords Go.Proofs.YthaiodklfoegiaaW.PrintLast Go.Proofs.YthaiodklfoegiaaW.PrintMore Go.Proofs.Ythaiodklfoegiaa.BMap Go.Proofs.Ythaiodklfoegiaa.BRow Go.Proofs.Ythaiodklfoegiaa.GDiffer Go.Proofs.Ythaiodklfoegiaa.CSame Go.Proofs.Ythaiodklfoegiaa.CCompile Go.Proofs.Ythaiodklfoegiaa.MLines Go.Proofs.Ythaiodklfoegiaa.MSide Go.Proofs.Ythaiodklfoegiaa.MPol Go.Maps
open Go.Proofs.Ythaiodklfoegiaa Go.Proofs.Ythaiodklfoegiaa.PG
set_option linter.unusedSimpArgs false

/-- What a twin asks of the lists' lengths. -/
structure Short (d : PolD) : Prop where
  acts : d.acts.length < 8796093022208
  subs : d.subs.length < 5864062014805
  roles : d.roles.length < 8796093022208
  objs : d.objs.length < 8796093022208
  grps : d.grps.length < 8796093022208
  mem : d.mem.length < 4398046511104
  inh : d.inh.length < 4398046511104
  par : d.par.length < 4398046511104
  wit : d.wit.length < 4398046511104
  rules : d.rules.length < 1759218604440
  exc : d.exc.length < 2932031007402
  each : ∀ r ∈ d.rules, r.f3.length < 8796093022208
theorem texts_go (A : Option Addr) (c : Nat) (l : List ByteArray) (w : World) (hC : Kd.C Kd.string w A l.length l) (hc : l.length ≤ c) (h : l.length < 8796093022208) :
    Calls Try.prog 71 #[.slice A l.length c] w fun e w' => ∃ v, e = .returned v ∧ Kd.R Kd.string 9 w' w.heap.size (fun _ => True) v l ∧ Below w.heap.size w w' :=
  gatehouselaw11_texts.calls A c l l w hC hc (by
    unfold gatehouselaw11_texts.f
    rw [if_pos (by simpa using h)]
    simp)
abbrev qV (v0 v1 v2 v3 v4 v5 v6 v7 v8 v9 v10 : Value) : Array Value := #[v0, v1, v2, v3, v4, v5, v6, v7, v8, v9, v10]
abbrev nil : Value := .slice none 0 0
theorem z39 (w : World) : (zeroValue 39).run Try.prog w = .ok (.agg #[.slice none 0 0, .slice none 0 0, .slice none 0 0, .slice none 0 0, .slice none 0 0, .slice none 0 0, .slice none 0 0, .slice none 0 0, .slice none 0 0, .slice none 0 0, .slice none 0 0]) w := by kernel_rfl
theorem tyS : ∀ q, q ∈ 9 :: Kd.string.E → q ≠ 39 := by decide
theorem ty54 : ∀ q, q ∈ 54 :: k54.E → q ≠ 39 := by decide
/-- A twin in its variable, fields being written. -/
structure Tn (p : Pol) (w : World) (gv g3 : Nat) (W : World) (cs : Array Value) (v0 v3 : Value) : Prop where
  box : Stays W w.heap.size p.cells 39
  res : Stays W gv #[.slice none 0 0, .slice none 0 0, .slice none 0 0, .slice none 0 0, .slice none 0 0, .slice none 0 0, .slice none 0 0, .slice none 0 0, .slice none 0 0, .slice none 0 0, .slice none 0 0] 39
  g : Stays W g3 cs 39
  r0 : Kd.R Kd.string 9 W w.heap.size (fun _ => True) v0 p.d.acts
  r3 : Kd.R Kd.string 9 W w.heap.size (fun _ => True) v3 p.d.objs
  below : Below w.heap.size w W
theorem Tn.move {p : Pol} {w W W1 : World} {gv g3 : Nat} {cs : Array Value} {v0 v3 : Value} (h : Tn p w gv g3 W cs v0 v3) (hb : Below W.heap.size W W1) : Tn p w gv g3 W1 cs v0 v3 :=
  ⟨h.box.below hb, h.res.below hb, h.g.below hb, Kd.R_below h.r0 hb, Kd.R_below h.r3 hb, below_then h.below h.below.size hb⟩
theorem Tn.set {p : Pol} {w W : World} {gv g3 : Nat} {cs : Array Value} {v0 v3 : Value} (h : Tn p w gv g3 W cs v0 v3) (n1 : w.heap.size < gv) (n2 : gv < g3) (j : Nat) (v : Value) : Tn p w gv g3 (W.setCell ⟨g3, j, none⟩ v) (cs.setIfInBounds j v) v0 v3 :=
  ⟨stays_far h.box (show w.heap.size ≠ g3 by omega) v, stays_far h.res (show gv ≠ g3 by omega) v, stays_set h.g j v, R_set h.r0 h.g tyS j v, R_set h.r3 h.g tyS j v, below_set h.below (show w.heap.size ≤ g3 by omega)⟩

/-- .. with its subjects. -/
structure Tw (p : Pol) (w : World) (gv g3 : Nat) (W : World) (cs : Array Value) (v0 v1 v3 : Value) : Prop where
  n : Tn p w gv g3 W cs v0 v3
  r1 : Kd.R k54 54 W w.heap.size (fun _ => True) v1 p.d.subs
theorem Tw.move {p : Pol} {w W W1 : World} {gv g3 : Nat} {cs : Array Value} {v0 v1 v3 : Value} (h : Tw p w gv g3 W cs v0 v1 v3) (hb : Below W.heap.size W W1) : Tw p w gv g3 W1 cs v0 v1 v3 := ⟨h.n.move hb, Kd.R_below h.r1 hb⟩
theorem Tw.set {p : Pol} {w W : World} {gv g3 : Nat} {cs : Array Value} {v0 v1 v3 : Value} (h : Tw p w gv g3 W cs v0 v1 v3) (n1 : w.heap.size < gv) (n2 : gv < g3) (j : Nat) (v : Value) : Tw p w gv g3 (W.setCell ⟨g3, j, none⟩ v) (cs.setIfInBounds j v) v0 v1 v3 := ⟨h.n.set n1 n2 j v, R_set h.r1 h.n.g ty54 j v⟩
theorem inf54 : (Try.prog.info? 54).map (fun i => (i.zero, i.size, i.bytes)) = some (some (.agg #[(.string ⟨#[]⟩), (.float .f64 0)]), 2, 24) := by kernel_rfl
theorem inf28 : (Try.prog.info? 28).map (fun i => (i.zero, i.size, i.bytes)) = some (some (.agg #[(.string ⟨#[]⟩), (.string ⟨#[]⟩), (.string ⟨#[]⟩)]), 3, 48) := by kernel_rfl

theorem off39 {α : Type} {dk : Kd α} {e base g3 : Nat} {ok : Nat → Prop} {w : World} {v : Value} {xs : List α} {cs : Array Value} (h : dk.R e w base ok v xs) (hg : Stays w g3 cs 39) (ht : ∀ q, q ∈ e :: dk.E → q ≠ 39) : dk.R e w base (fun k => ¬ S1 g3 k) v xs := Kd.R_mono (Kd.R_types h hg ht) (fun _ hk => hk.2)
theorem types78 : ∀ q, q ∈ 78 :: k78.E → q ≠ 39 := by decide
theorem tyS78 : ∀ q, q ∈ 9 :: Kd.string.E → q ≠ 78 := by decide
/-- The rules, so far. -/
structure Rp (g3 : Nat) (W wr : World) (v0 v1 v2 v3 v4 v5 v6 v7 v8 vr : Value) (rs : List S78) : Prop where
  same : Same (S1 g3) W wr
  g : Stays wr g3 (qV v0 v1 v2 v3 v4 v5 v6 v7 v8 vr nil) 39
  rs : Kd.R k78 78 wr W.heap.size (fun _ => True) vr rs
namespace Rp
variable {g3 : Nat} {W wr w1 : World} {v0 v1 v2 v3 v4 v5 v6 v7 v8 vr v' : Value} {rs rs' : List S78}
theorem move (h : Rp g3 W wr v0 v1 v2 v3 v4 v5 v6 v7 v8 vr rs) (hb : Below wr.heap.size wr w1) : Rp g3 W w1 v0 v1 v2 v3 v4 v5 v6 v7 v8 vr rs := ⟨h.same.move hb, h.g.below hb, Kd.R_below h.rs hb⟩
theorem kept (h : Rp g3 W wr v0 v1 v2 v3 v4 v5 v6 v7 v8 vr rs) (hg : wr.grownBy w1 vr.ownBlock) : Stays w1 g3 (qV v0 v1 v2 v3 v4 v5 v6 v7 v8 vr nil) 39 := (hg.block _ (Array.getElem?_eq_some_iff.1 h.g).1 (Kd.R_ne h.rs h.g (by decide))).trans h.g
theorem app (h : Rp g3 W wr v0 v1 v2 v3 v4 v5 v6 v7 v8 vr rs) (hr : Kd.R k78 78 w1 W.heap.size (fun _ => True) v' rs') (hg : wr.grownBy w1 vr.ownBlock) : Rp g3 W (w1.setCell ⟨g3, 9, none⟩ v') v0 v1 v2 v3 v4 v5 v6 v7 v8 v' rs' where
  same := (h.same.grown hg (fun k hk => by
    obtain ⟨inner, ho⟩ := Kd.R_own h.rs
    exact .inr (own_base ho k hk))).set (.inl rfl) v'
  g := stays_set (h.kept hg) 9 v'
  rs := R_set hr (h.kept hg) types78 9 v'
/-- A younger variable is written. -/
theorem var (h : Rp g3 W wr v0 v1 v2 v3 v4 v5 v6 v7 v8 vr rs) (hb : Below wr.heap.size wr w1) {g5 : Nat} (h5 : g5 = wr.heap.size) (j : Nat) (v : Value) : Rp g3 W (w1.setCell ⟨g5, j, none⟩ v) v0 v1 v2 v3 v4 v5 v6 v7 v8 vr rs where
  same := (h.same.move hb).set (.inr (by show W.heap.size ≤ g5; rw [h5]; exact h.same.size)) v
  g := stays_far (h.g.below hb) (by show g3 ≠ g5; have := (Array.getElem?_eq_some_iff.1 h.g).1; omega) v
  rs := Kd.R_mono (Kd.R_step (Kd.R_old h.rs hb) (fun k ho _ => heap_setCell_other w1 _ k v (by show k ≠ g5; have := ho.2; omega))) (fun _ _ => trivial)
end Rp

set_option maxHeartbeats 8000000 in
set_option maxRecDepth 100000 in
theorem twin_go (p : Pol) (w : World) (hp : p.In w) (hd : Short p.d) :
    Calls Try.prog 58 #[.agg p.cells] w fun e w' => ∃ v0 v1 v2 v3 v4 v5 v6 v7 v8 v9 v10 : Value, e = .returned (.agg #[v0, v1, v2, v3, v4, v5, v6, v7, v8, v9, v10]) ∧ Kd.R Kd.string 9 w' w.heap.size (fun _ => True) v0 p.d.acts ∧ Kd.R k54 54 w' w.heap.size (fun _ => True) v1 p.d.subs ∧ Kd.R Kd.string 9 w' w.heap.size (fun _ => True) v3 p.d.objs ∧ (∀ v ∈ [v0, v1, v2, v3, v4, v5, v6, v7, v8, v9, v10], v.oneCell' = true) ∧ Below w.heap.size w w' := by
  obtain ⟨d, A0, c0, A1, c1, A2, c2, A3, c3, A4, c4, A5, c5, A6, c6, A7, c7, A8, c8, A9, c9, A10, c10⟩ := p
  have HP := Aside0.mk hp
  have HK := Aside0.mk hd
  clear hp hd
  have hst : Stays ((w.alloc (.cells #[.slice A0 d.acts.length c0, .slice A1 d.subs.length c1, .slice A2 d.roles.length c2, .slice A3 d.objs.length c3, .slice A4 d.grps.length c4, .slice A5 d.mem.length c5, .slice A6 d.inh.length c6, .slice A7 d.par.length c7, .slice A8 d.wit.length c8, .slice A9 d.rules.length c9, .slice A10 d.exc.length c10] 39)).alloc (.cells #[.slice none 0 0, .slice none 0 0, .slice none 0 0, .slice none 0 0, .slice none 0 0, .slice none 0 0, .slice none 0 0, .slice none 0 0, .slice none 0 0, .slice none 0 0, .slice none 0 0] 39)) w.heap.size #[.slice A0 d.acts.length c0, .slice A1 d.subs.length c1, .slice A2 d.roles.length c2, .slice A3 d.objs.length c3, .slice A4 d.grps.length c4, .slice A5 d.mem.length c5, .slice A6 d.inh.length c6, .slice A7 d.par.length c7, .slice A8 d.wit.length c8, .slice A9 d.rules.length c9, .slice A10 d.exc.length c10] 39 := Stays.below (heap_alloc_new w _) (below_alloc (Below.refl _ _) _)
  have hsv : Stays ((w.alloc (.cells #[.slice A0 d.acts.length c0, .slice A1 d.subs.length c1, .slice A2 d.roles.length c2, .slice A3 d.objs.length c3, .slice A4 d.grps.length c4, .slice A5 d.mem.length c5, .slice A6 d.inh.length c6, .slice A7 d.par.length c7, .slice A8 d.wit.length c8, .slice A9 d.rules.length c9, .slice A10 d.exc.length c10] 39)).alloc (.cells #[.slice none 0 0, .slice none 0 0, .slice none 0 0, .slice none 0 0, .slice none 0 0, .slice none 0 0, .slice none 0 0, .slice none 0 0, .slice none 0 0, .slice none 0 0, .slice none 0 0] 39)) (w.heap.size + 1) #[.slice none 0 0, .slice none 0 0, .slice none 0 0, .slice none 0 0, .slice none 0 0, .slice none 0 0, .slice none 0 0, .slice none 0 0, .slice none 0 0, .slice none 0 0, .slice none 0 0] 39 := by
    have h := heap_alloc_new (w.alloc (.cells #[.slice A0 d.acts.length c0, .slice A1 d.subs.length c1, .slice A2 d.roles.length c2, .slice A3 d.objs.length c3, .slice A4 d.grps.length c4, .slice A5 d.mem.length c5, .slice A6 d.inh.length c6, .slice A7 d.par.length c7, .slice A8 d.wit.length c8, .slice A9 d.rules.length c9, .slice A10 d.exc.length c10] 39)) (.cells #[.slice none 0 0, .slice none 0 0, .slice none 0 0, .slice none 0 0, .slice none 0 0, .slice none 0 0, .slice none 0 0, .slice none 0 0, .slice none 0 0, .slice none 0 0, .slice none 0 0] 39)
    rw [World.size_alloc] at h
    exact h
  have hb0 : Below w.heap.size w ((w.alloc (.cells #[.slice A0 d.acts.length c0, .slice A1 d.subs.length c1, .slice A2 d.roles.length c2, .slice A3 d.objs.length c3, .slice A4 d.grps.length c4, .slice A5 d.mem.length c5, .slice A6 d.inh.length c6, .slice A7 d.par.length c7, .slice A8 d.wit.length c8, .slice A9 d.rules.length c9, .slice A10 d.exc.length c10] 39)).alloc (.cells #[.slice none 0 0, .slice none 0 0, .slice none 0 0, .slice none 0 0, .slice none 0 0, .slice none 0 0, .slice none 0 0, .slice none 0 0, .slice none 0 0, .slice none 0 0, .slice none 0 0] 39)) := below_alloc (below_alloc (Below.refl _ _) _) _
  have hz := z39
  unfold Pol.cells
  go_enter Try.func58, Try.ntmps58
  go_upto_region 1 with fail
  clear hz
  obtain ⟨W0, hW0⟩ : ∃ W0, W0 = (w.alloc (.cells #[.slice A0 d.acts.length c0, .slice A1 d.subs.length c1, .slice A2 d.roles.length c2, .slice A3 d.objs.length c3, .slice A4 d.grps.length c4, .slice A5 d.mem.length c5, .slice A6 d.inh.length c6, .slice A7 d.par.length c7, .slice A8 d.wit.length c8, .slice A9 d.rules.length c9, .slice A10 d.exc.length c10] 39)).alloc (.cells #[.slice none 0 0, .slice none 0 0, .slice none 0 0, .slice none 0 0, .slice none 0 0, .slice none 0 0, .slice none 0 0, .slice none 0 0, .slice none 0 0, .slice none 0 0, .slice none 0 0] 39) := ⟨_, rfl⟩
  obtain ⟨gv, hgv⟩ : ∃ gv, gv = w.heap.size + 1 := ⟨_, rfl⟩
  rw [← hW0] at hst hsv hb0 ⊢
  rw [← hgv] at hsv ⊢
  have HGV := Aside0.mk (show w.heap.size < gv by omega)
  have HB0 := Aside0.mk hst
  have HV0 := Aside0.mk hsv
  have HW0 := Aside0.mk hb0
  clear hst hsv hb0 hW0 hgv
  go_cut [3] (fun v3 W3 => ∃ (g3 : Nat) (Ba Br Bo Bg : Option Addr) (na nr no ng ka kr ko kg : Nat), v3 = .pointer (some ⟨g3, 0, none⟩) ∧ Aside0 (gv < g3) ∧ Aside0 (Tn (Pol.mk d A0 c0 A1 c1 A2 c2 A3 c3 A4 c4 A5 c5 A6 c6 A7 c7 A8 c8 A9 c9 A10 c10) w gv g3 W3 (qV (.slice Ba na ka) nil (.slice Br nr kr) (.slice Bo no ko) (.slice Bg ng kg) nil nil nil nil nil nil) (.slice Ba na ka) (.slice Bo no ko)))
  case first =>
    have HB1 := Aside0.mk (below_drew (Below.refl W0.heap.size W0))
    refine start_ (n := 15) (S := fun w' => w'.cell? ⟨w.heap.size, 0, none⟩ = some (.slice A0 d.acts.length c0) ∧ w'.cell? ⟨w.heap.size, 2, none⟩ = some (.slice A2 d.roles.length c2) ∧ w'.cell? ⟨w.heap.size, 3, none⟩ = some (.slice A3 d.objs.length c3) ∧ w'.cell? ⟨w.heap.size, 4, none⟩ = some (.slice A4 d.grps.length c4)) (ds := [14]) #[false, false, false, false, false, false, false, false, false, false, false, false, false, false, false] (by kernel_rfl) rfl rfl ⟨HB0.out.cell 0, HB0.out.cell 2, HB0.out.cell 3, HB0.out.cell 4⟩ (fun hHeld => ?_)
    obtain ⟨W1, hW1⟩ : ∃ W1, W1 = W0.drew := ⟨_, rfl⟩
    rw [← hW1] at hHeld HB1 ⊢
    clear hW1
    refine pure_ (i := 0) (N := some 6) (v := ?_) (a' := ?_) #[true, false, false, false, false, false, false, false, false, false, false, false, false, false, false] rfl rfl (by kernel_rfl) (fun _ _ _ h => h) (Or.inl ⟨by rfl, ?_⟩) ?_ ?_
    rotate_left
    · intro w'
      go_simp
      with_reducible rfl
    rotate_left
    · simp only [Act.put, List.setIfInBounds_toArray, List.set_cons_zero, List.set_cons_succ]
      rfl
    refine take_ (i := 1) (N := some 7) (v := ?_) (a' := ?_) #[true, true, false, false, false, false, false, false, false, false, false, false, false, false, false] rfl rfl (by kernel_rfl) (fun _ _ _ h => h) (Or.inl ⟨by rfl, ?_⟩) hHeld ?_ ?_
    rotate_left
    · rintro w' ⟨s0, s1, s2, s3⟩
      go_simp
      with_reducible rfl
    rotate_left
    · simp only [Act.put, List.setIfInBounds_toArray, List.set_cons_zero, List.set_cons_succ]
      rfl
    refine pure_ (i := 3) (N := some 9) (v := ?_) (a' := ?_) #[true, true, false, true, false, false, false, false, false, false, false, false, false, false, false] rfl rfl (by kernel_rfl) (fun _ _ _ h => h) (Or.inl ⟨by rfl, ?_⟩) ?_ ?_
    rotate_left
    · intro w'
      go_simp
      with_reducible rfl
    rotate_left
    · simp only [Act.put, List.setIfInBounds_toArray, List.set_cons_zero, List.set_cons_succ]
      rfl
    refine take_ (i := 4) (N := some 10) (v := ?_) (a' := ?_) #[true, true, false, true, true, false, false, false, false, false, false, false, false, false, false] rfl rfl (by kernel_rfl) (fun _ _ _ h => h) (Or.inl ⟨by rfl, ?_⟩) hHeld ?_ ?_
    rotate_left
    · rintro w' ⟨s0, s1, s2, s3⟩
      go_simp
      with_reducible rfl
    rotate_left
    · simp only [Act.put, List.setIfInBounds_toArray, List.set_cons_zero, List.set_cons_succ]
      rfl
    refine pure_ (i := 6) (N := some 12) (v := ?_) (a' := ?_) #[true, true, false, true, true, false, true, false, false, false, false, false, false, false, false] rfl rfl (by kernel_rfl) (fun _ _ _ h => h) (Or.inl ⟨by rfl, ?_⟩) ?_ ?_
    rotate_left
    · intro w'
      go_simp
      with_reducible rfl
    rotate_left
    · simp only [Act.put, List.setIfInBounds_toArray, List.set_cons_zero, List.set_cons_succ]
      rfl
    refine take_ (i := 7) (N := some 13) (v := ?_) (a' := ?_) #[true, true, false, true, true, false, true, true, false, false, false, false, false, false, false] rfl rfl (by kernel_rfl) (fun _ _ _ h => h) (Or.inl ⟨by rfl, ?_⟩) hHeld ?_ ?_
    rotate_left
    · rintro w' ⟨s0, s1, s2, s3⟩
      go_simp
      with_reducible rfl
    rotate_left
    · simp only [Act.put, List.setIfInBounds_toArray, List.set_cons_zero, List.set_cons_succ]
      rfl
    refine pure_ (i := 9) (N := some 15) (v := ?_) (a' := ?_) #[true, true, false, true, true, false, true, true, false, true, false, false, false, false, false] rfl rfl (by kernel_rfl) (fun _ _ _ h => h) (Or.inl ⟨by rfl, ?_⟩) ?_ ?_
    rotate_left
    · intro w'
      go_simp
      with_reducible rfl
    rotate_left
    · simp only [Act.put, List.setIfInBounds_toArray, List.set_cons_zero, List.set_cons_succ]
      rfl
    refine take_ (i := 10) (N := some 16) (v := ?_) (a' := ?_) #[true, true, false, true, true, false, true, true, false, true, true, false, false, false, false] rfl rfl (by kernel_rfl) (fun _ _ _ h => h) (Or.inl ⟨by rfl, ?_⟩) hHeld ?_ ?_
    rotate_left
    · rintro w' ⟨s0, s1, s2, s3⟩
      go_simp
      with_reducible rfl
    rotate_left
    · simp only [Act.put, List.setIfInBounds_toArray, List.set_cons_zero, List.set_cons_succ]
      rfl
    refine two_ (i := 2) (j := 13) (Ni := some 8) (Nj := some 3) #[true, true, true, true, true, false, true, true, false, true, true, false, false, false, false] #[true, true, false, true, true, false, true, true, false, true, true, false, false, true, false] rfl rfl rfl rfl (by kernel_rfl) (by decide) (by decide) (fun K hK => ?_) (fun K hK => ?_)
    · refine goes_ Try.func71 (by kernel_rfl) rfl #[.slice A0 d.acts.length c0] (by rfl) rfl rfl (by (try simp only [List.map_toArray, List.map_cons, List.map_nil]); first | done | rfl) ?_
      refine (texts_go A0 c0 d.acts _ ((HP.out.below (below_then HW0.out HW0.out.size HB1.out)).h0) HP.out.l0 HK.out.acts).mono ?_
      rintro e wHA ⟨vv, rfl, hR, hb⟩
      obtain ⟨Ax, cx, rfl⟩ := Kd.R_slice hR
      refine ⟨_, rfl, ?_⟩
      have HB2 := Aside0.mk (below_then HB1.out HB1.out.size hb)
      have HA := Aside0.mk (Kd.R_lower hR (Nat.le_trans HW0.out.size HB1.out.size))
      clear hR hb
      refine hK.out _ _ ⟨pw_cell_below HB2.out (HB0.out.cell 0), pw_cell_below HB2.out (HB0.out.cell 2), pw_cell_below HB2.out (HB0.out.cell 3), pw_cell_below HB2.out (HB0.out.cell 4)⟩ (fun hHeld => ?_)
      clear hK K
      refine norm_ (a' := ?_) ?_ ?_
      rotate_left
      · show Act.put _ (some 8) _ = _
        simp only [Act.put, List.setIfInBounds_toArray, List.set_cons_zero, List.set_cons_succ]
        rfl
      refine two_ (i := 5) (j := 13) (Ni := some 11) (Nj := some 3) #[true, true, true, true, true, true, true, true, false, true, true, false, false, false, false] #[true, true, true, true, true, false, true, true, false, true, true, false, false, true, false] rfl rfl rfl rfl (by kernel_rfl) (by decide) (by decide) (fun K hK => ?_) (fun K hK => ?_)
      · refine goes_ Try.func71 (by kernel_rfl) rfl #[.slice A2 d.roles.length c2] (by rfl) rfl rfl (by (try simp only [List.map_toArray, List.map_cons, List.map_nil]); first | done | rfl) ?_
        refine (texts_go A2 c2 d.roles _ ((HP.out.below (below_then HW0.out HW0.out.size HB2.out)).h2) HP.out.l2 HK.out.roles).mono ?_
        rintro e wHRO ⟨vv, rfl, hR, hb⟩
        obtain ⟨Ar, cr, rfl⟩ := Kd.R_slice hR
        refine ⟨_, rfl, ?_⟩
        have HB3 := Aside0.mk (below_then HB2.out HB2.out.size hb)
        have HA := Aside0.mk (Kd.R_below HA.out hb)
        clear hR hb
        refine hK.out _ _ ⟨pw_cell_below HB3.out (HB0.out.cell 0), pw_cell_below HB3.out (HB0.out.cell 2), pw_cell_below HB3.out (HB0.out.cell 3), pw_cell_below HB3.out (HB0.out.cell 4)⟩ (fun hHeld => ?_)
        clear hK K
        refine norm_ (a' := ?_) ?_ ?_
        rotate_left
        · show Act.put _ (some 11) _ = _
          simp only [Act.put, List.setIfInBounds_toArray, List.set_cons_zero, List.set_cons_succ]
          rfl
        refine two_ (i := 8) (j := 13) (Ni := some 14) (Nj := some 3) #[true, true, true, true, true, true, true, true, true, true, true, false, false, false, false] #[true, true, true, true, true, true, true, true, false, true, true, false, false, true, false] rfl rfl rfl rfl (by kernel_rfl) (by decide) (by decide) (fun K hK => ?_) (fun K hK => ?_)
        · refine goes_ Try.func71 (by kernel_rfl) rfl #[.slice A3 d.objs.length c3] (by rfl) rfl rfl (by (try simp only [List.map_toArray, List.map_cons, List.map_nil]); first | done | rfl) ?_
          refine (texts_go A3 c3 d.objs _ ((HP.out.below (below_then HW0.out HW0.out.size HB3.out)).h3) HP.out.l3 HK.out.objs).mono ?_
          rintro e wHC ⟨vv, rfl, hR, hb⟩
          obtain ⟨Ay, cy, rfl⟩ := Kd.R_slice hR
          refine ⟨_, rfl, ?_⟩
          have HB4 := Aside0.mk (below_then HB3.out HB3.out.size hb)
          have HA := Aside0.mk (Kd.R_below HA.out hb)
          have HC := Aside0.mk (Kd.R_lower hR (Nat.le_trans HW0.out.size HB3.out.size))
          clear hR hb
          refine hK.out _ _ ⟨pw_cell_below HB4.out (HB0.out.cell 0), pw_cell_below HB4.out (HB0.out.cell 2), pw_cell_below HB4.out (HB0.out.cell 3), pw_cell_below HB4.out (HB0.out.cell 4)⟩ (fun hHeld => ?_)
          clear hK K
          refine norm_ (a' := ?_) ?_ ?_
          rotate_left
          · show Act.put _ (some 14) _ = _
            simp only [Act.put, List.setIfInBounds_toArray, List.set_cons_zero, List.set_cons_succ]
            rfl
          refine two_ (i := 11) (j := 13) (Ni := some 17) (Nj := some 3) #[true, true, true, true, true, true, true, true, true, true, true, true, false, false, false] #[true, true, true, true, true, true, true, true, true, true, true, false, false, true, false] rfl rfl rfl rfl (by kernel_rfl) (by decide) (by decide) (fun K hK => ?_) (fun K hK => ?_)
          · refine goes_ Try.func71 (by kernel_rfl) rfl #[.slice A4 d.grps.length c4] (by rfl) rfl rfl (by (try simp only [List.map_toArray, List.map_cons, List.map_nil]); first | done | rfl) ?_
            refine (texts_go A4 c4 d.grps _ ((HP.out.below (below_then HW0.out HW0.out.size HB4.out)).h4) HP.out.l4 HK.out.grps).mono ?_
            rintro e wHGR ⟨vv, rfl, hR, hb⟩
            obtain ⟨Ag, cg, rfl⟩ := Kd.R_slice hR
            refine ⟨_, rfl, ?_⟩
            have HB5 := Aside0.mk (below_then HB4.out HB4.out.size hb)
            have HA := Aside0.mk (Kd.R_below HA.out hb)
            have HC := Aside0.mk (Kd.R_below HC.out hb)
            clear hR hb
            refine hK.out _ _ ⟨pw_cell_below HB5.out (HB0.out.cell 0), pw_cell_below HB5.out (HB0.out.cell 2), pw_cell_below HB5.out (HB0.out.cell 3), pw_cell_below HB5.out (HB0.out.cell 4)⟩ (fun hHeld => ?_)
            clear hK K
            refine norm_ (a' := ?_) ?_ ?_
            rotate_left
            · show Act.put _ (some 17) _ = _
              simp only [Act.put, List.setIfInBounds_toArray, List.set_cons_zero, List.set_cons_succ]
              rfl
            have hz := z39
            refine pure_ (i := 12) (N := some 18) (v := ?_) (a' := ?_) #[true, true, true, true, true, true, true, true, true, true, true, true, true, false, false] rfl rfl (by kernel_rfl) (fun _ _ _ h => h) (Or.inl ⟨by rfl, ?_⟩) ?_ ?_
            rotate_left
            · intro w'
              go_simp
              with_reducible rfl
            rotate_left
            · simp only [Act.put, List.setIfInBounds_toArray, List.set_cons_zero, List.set_cons_succ]
              rfl
            clear hz
            refine one_ (i := 13) (N := some 3) #[true, true, true, true, true, true, true, true, true, true, true, true, true, true, false] rfl rfl (by kernel_rfl) (by decide) (fun K hK => ?_)
            have hz := z39
            refine GDiffer.step_run (w' := World.alloc wHGR (.cells #[.slice none 0 0, .slice none 0 0, .slice none 0 0, .slice none 0 0, .slice none 0 0, .slice none 0 0, .slice none 0 0, .slice none 0 0, .slice none 0 0, .slice none 0 0, .slice none 0 0] 39)) (v := .pointer (some ⟨World.heap wHGR |>.size, 0, none⟩)) rfl rfl (by go_simp) ?_
            clear hz
            have hs3 : Stays (World.alloc wHGR (.cells #[.slice none 0 0, .slice none 0 0, .slice none 0 0, .slice none 0 0, .slice none 0 0, .slice none 0 0, .slice none 0 0, .slice none 0 0, .slice none 0 0, .slice none 0 0, .slice none 0 0] 39)) (World.heap wHGR).size #[.slice none 0 0, .slice none 0 0, .slice none 0 0, .slice none 0 0, .slice none 0 0, .slice none 0 0, .slice none 0 0, .slice none 0 0, .slice none 0 0, .slice none 0 0, .slice none 0 0] 39 := heap_alloc_new wHGR _
            have hb := below_alloc (Below.refl _ wHGR) (.cells #[.slice none 0 0, .slice none 0 0, .slice none 0 0, .slice none 0 0, .slice none 0 0, .slice none 0 0, .slice none 0 0, .slice none 0 0, .slice none 0 0, .slice none 0 0, .slice none 0 0] 39)
            have HB6 := Aside0.mk (below_then HB5.out HB5.out.size hb)
            have hle : W0.heap.size ≤ (World.heap wHGR).size := HB5.out.size
            have HA := Aside0.mk (Kd.R_below HA.out hb)
            have HC := Aside0.mk (Kd.R_below HC.out hb)
            obtain ⟨W7, hW7⟩ : ∃ W7, W7 = World.alloc wHGR (.cells #[.slice none 0 0, .slice none 0 0, .slice none 0 0, .slice none 0 0, .slice none 0 0, .slice none 0 0, .slice none 0 0, .slice none 0 0, .slice none 0 0, .slice none 0 0, .slice none 0 0] 39) := ⟨_, rfl⟩
            obtain ⟨g3, hg3⟩ : ∃ g3, g3 = (World.heap wHGR).size := ⟨_, rfl⟩
            rw [← hW7] at hs3 HB6 HA HC ⊢
            rw [← hg3] at hs3 hle ⊢
            have HS3 := Aside0.mk hs3
            have HLE := Aside0.mk hle
            have HG3 := Aside0.mk (show gv < g3 by have := (Array.getElem?_eq_some_iff.1 HV0.out).1; omega)
            clear hs3 hb hle hW7 hg3
            refine hK.out _ _ ⟨pw_cell_below HB6.out (HB0.out.cell 0), pw_cell_below HB6.out (HB0.out.cell 2), pw_cell_below HB6.out (HB0.out.cell 3), pw_cell_below HB6.out (HB0.out.cell 4)⟩ (fun hHeld => ?_)
            clear hK K
            refine norm_ (a' := ?_) ?_ ?_
            rotate_left
            · show Act.put _ (some 3) _ = _
              simp only [Act.put, List.setIfInBounds_toArray, List.set_cons_zero, List.set_cons_succ]
              rfl
            refine last_ (i := 14) (N := none) #[true, true, true, true, true, true, true, true, true, true, true, true, true, true, true] rfl rfl (by kernel_rfl) (by decide) (fun K hK => ?_)
            have hst := run_storeAt_mid (P := Try.prog) W7 g3 0 39 (qV (.slice Ax d.acts.length cx) nil (.slice Ar d.roles.length cr) (.slice Ay d.objs.length cy) (.slice Ag d.grps.length cg) nil nil nil nil nil nil) (Stays.there (cs := #[.slice none 0 0, .slice none 0 0, .slice none 0 0, .slice none 0 0, .slice none 0 0, .slice none 0 0, .slice none 0 0, .slice none 0 0, .slice none 0 0, .slice none 0 0, .slice none 0 0]) HS3.out) i39 (by simp [qV, nil, Value.oneCell'])
            refine GDiffer.step_skip (w' := World.setCells W7 g3 0 (qV (.slice Ax d.acts.length cx) nil (.slice Ar d.roles.length cr) (.slice Ay d.objs.length cy) (.slice Ag d.grps.length cg) nil nil nil nil nil nil).toList) rfl rfl (by first | (simp [execOp, Act.eval, hst]; done) | (show Sem.run Try.prog _ _ = _; simp only [execOp, Act.eval]; simp; rw [hst]; rfl)) ?_
            refine hK.out _ _ ?_
            clear hK K hst
            refine done_ (by kernel_rfl) ?_
            have hS3 := setCells_var (vs := (qV (.slice Ax d.acts.length cx) nil (.slice Ar d.roles.length cr) (.slice Ay d.objs.length cy) (.slice Ag d.grps.length cg) nil nil nil nil nil nil)) HS3.out rfl
            have hbb := setCells_below HB6.out HLE.out (qV (.slice Ax d.acts.length cx) nil (.slice Ar d.roles.length cr) (.slice Ay d.objs.length cy) (.slice Ag d.grps.length cg) nil nil nil nil nil nil).toList
            have hRA := R_setCells HA.out HS3.out tyS (qV (.slice Ax d.acts.length cx) nil (.slice Ar d.roles.length cr) (.slice Ay d.objs.length cy) (.slice Ag d.grps.length cg) nil nil nil nil nil nil).toList
            have hRC := R_setCells HC.out HS3.out tyS (qV (.slice Ax d.acts.length cx) nil (.slice Ar d.roles.length cr) (.slice Ay d.objs.length cy) (.slice Ag d.grps.length cg) nil nil nil nil nil nil).toList
            have HF := Aside0.mk (Tn.mk (p := (Pol.mk d A0 c0 A1 c1 A2 c2 A3 c3 A4 c4 A5 c5 A6 c6 A7 c7 A8 c8 A9 c9 A10 c10)) (gv := gv) (HB0.out.below hbb) (HV0.out.below hbb) hS3 hRA hRC (below_then HW0.out HW0.out.size hbb))
            clear hS3 hbb hRA hRC hHeld
            go_wp2
            go_meet
            exact ⟨g3, _, _, _, _, _, _, _, _, _, _, _, _, rfl, HG3, HF⟩
          · have hz := z39
            refine GDiffer.step_run (w' := World.alloc wHC (.cells #[.slice none 0 0, .slice none 0 0, .slice none 0 0, .slice none 0 0, .slice none 0 0, .slice none 0 0, .slice none 0 0, .slice none 0 0, .slice none 0 0, .slice none 0 0, .slice none 0 0] 39)) (v := .pointer (some ⟨World.heap wHC |>.size, 0, none⟩)) rfl rfl (by go_simp) ?_
            clear hz
            have hs3 : Stays (World.alloc wHC (.cells #[.slice none 0 0, .slice none 0 0, .slice none 0 0, .slice none 0 0, .slice none 0 0, .slice none 0 0, .slice none 0 0, .slice none 0 0, .slice none 0 0, .slice none 0 0, .slice none 0 0] 39)) (World.heap wHC).size #[.slice none 0 0, .slice none 0 0, .slice none 0 0, .slice none 0 0, .slice none 0 0, .slice none 0 0, .slice none 0 0, .slice none 0 0, .slice none 0 0, .slice none 0 0, .slice none 0 0] 39 := heap_alloc_new wHC _
            have hb := below_alloc (Below.refl _ wHC) (.cells #[.slice none 0 0, .slice none 0 0, .slice none 0 0, .slice none 0 0, .slice none 0 0, .slice none 0 0, .slice none 0 0, .slice none 0 0, .slice none 0 0, .slice none 0 0, .slice none 0 0] 39)
            have HB5 := Aside0.mk (below_then HB4.out HB4.out.size hb)
            have hle : W0.heap.size ≤ (World.heap wHC).size := HB4.out.size
            have HA := Aside0.mk (Kd.R_below HA.out hb)
            have HC := Aside0.mk (Kd.R_below HC.out hb)
            obtain ⟨W7, hW7⟩ : ∃ W7, W7 = World.alloc wHC (.cells #[.slice none 0 0, .slice none 0 0, .slice none 0 0, .slice none 0 0, .slice none 0 0, .slice none 0 0, .slice none 0 0, .slice none 0 0, .slice none 0 0, .slice none 0 0, .slice none 0 0] 39) := ⟨_, rfl⟩
            obtain ⟨g3, hg3⟩ : ∃ g3, g3 = (World.heap wHC).size := ⟨_, rfl⟩
            rw [← hW7] at hs3 HB5 HA HC ⊢
            rw [← hg3] at hs3 hle ⊢
            have HS3 := Aside0.mk hs3
            have HLE := Aside0.mk hle
            have HG3 := Aside0.mk (show gv < g3 by have := (Array.getElem?_eq_some_iff.1 HV0.out).1; omega)
            clear hs3 hb hle hW7 hg3
            refine hK.out _ _ ⟨pw_cell_below HB5.out (HB0.out.cell 0), pw_cell_below HB5.out (HB0.out.cell 2), pw_cell_below HB5.out (HB0.out.cell 3), pw_cell_below HB5.out (HB0.out.cell 4)⟩ (fun hHeld => ?_)
            clear hK K
            refine norm_ (a' := ?_) ?_ ?_
            rotate_left
            · show Act.put _ (some 3) _ = _
              simp only [Act.put, List.setIfInBounds_toArray, List.set_cons_zero, List.set_cons_succ]
              rfl
            refine one_ (i := 11) (N := some 17) #[true, true, true, true, true, true, true, true, true, true, true, true, false, true, false] rfl rfl (by kernel_rfl) (by decide) (fun K hK => ?_)
            refine goes_ Try.func71 (by kernel_rfl) rfl #[.slice A4 d.grps.length c4] (by rfl) rfl rfl (by (try simp only [List.map_toArray, List.map_cons, List.map_nil]); first | done | rfl) ?_
            refine (texts_go A4 c4 d.grps _ ((HP.out.below (below_then HW0.out HW0.out.size HB5.out)).h4) HP.out.l4 HK.out.grps).mono ?_
            rintro e wHGR ⟨vv, rfl, hR, hb⟩
            obtain ⟨Ag, cg, rfl⟩ := Kd.R_slice hR
            refine ⟨_, rfl, ?_⟩
            have HB6 := Aside0.mk (below_then HB5.out HB5.out.size hb)
            have HA := Aside0.mk (Kd.R_below HA.out hb)
            have HC := Aside0.mk (Kd.R_below HC.out hb)
            have HS3 := Aside0.mk (HS3.out.below hb)
            clear hR hb
            refine hK.out _ _ ⟨pw_cell_below HB6.out (HB0.out.cell 0), pw_cell_below HB6.out (HB0.out.cell 2), pw_cell_below HB6.out (HB0.out.cell 3), pw_cell_below HB6.out (HB0.out.cell 4)⟩ (fun hHeld => ?_)
            clear hK K
            refine norm_ (a' := ?_) ?_ ?_
            rotate_left
            · show Act.put _ (some 17) _ = _
              simp only [Act.put, List.setIfInBounds_toArray, List.set_cons_zero, List.set_cons_succ]
              rfl
            have hz := z39
            refine pure_ (i := 12) (N := some 18) (v := ?_) (a' := ?_) #[true, true, true, true, true, true, true, true, true, true, true, true, true, true, false] rfl rfl (by kernel_rfl) (fun _ _ _ h => h) (Or.inl ⟨by rfl, ?_⟩) ?_ ?_
            rotate_left
            · intro w'
              go_simp
              with_reducible rfl
            rotate_left
            · simp only [Act.put, List.setIfInBounds_toArray, List.set_cons_zero, List.set_cons_succ]
              rfl
            clear hz
            refine last_ (i := 14) (N := none) #[true, true, true, true, true, true, true, true, true, true, true, true, true, true, true] rfl rfl (by kernel_rfl) (by decide) (fun K hK => ?_)
            have hst := run_storeAt_mid (P := Try.prog) wHGR g3 0 39 (qV (.slice Ax d.acts.length cx) nil (.slice Ar d.roles.length cr) (.slice Ay d.objs.length cy) (.slice Ag d.grps.length cg) nil nil nil nil nil nil) (Stays.there (cs := #[.slice none 0 0, .slice none 0 0, .slice none 0 0, .slice none 0 0, .slice none 0 0, .slice none 0 0, .slice none 0 0, .slice none 0 0, .slice none 0 0, .slice none 0 0, .slice none 0 0]) HS3.out) i39 (by simp [qV, nil, Value.oneCell'])
            refine GDiffer.step_skip (w' := World.setCells wHGR g3 0 (qV (.slice Ax d.acts.length cx) nil (.slice Ar d.roles.length cr) (.slice Ay d.objs.length cy) (.slice Ag d.grps.length cg) nil nil nil nil nil nil).toList) rfl rfl (by first | (simp [execOp, Act.eval, hst]; done) | (show Sem.run Try.prog _ _ = _; simp only [execOp, Act.eval]; simp; rw [hst]; rfl)) ?_
            refine hK.out _ _ ?_
            clear hK K hst
            refine done_ (by kernel_rfl) ?_
            have hS3 := setCells_var (vs := (qV (.slice Ax d.acts.length cx) nil (.slice Ar d.roles.length cr) (.slice Ay d.objs.length cy) (.slice Ag d.grps.length cg) nil nil nil nil nil nil)) HS3.out rfl
            have hbb := setCells_below HB6.out HLE.out (qV (.slice Ax d.acts.length cx) nil (.slice Ar d.roles.length cr) (.slice Ay d.objs.length cy) (.slice Ag d.grps.length cg) nil nil nil nil nil nil).toList
            have hRA := R_setCells HA.out HS3.out tyS (qV (.slice Ax d.acts.length cx) nil (.slice Ar d.roles.length cr) (.slice Ay d.objs.length cy) (.slice Ag d.grps.length cg) nil nil nil nil nil nil).toList
            have hRC := R_setCells HC.out HS3.out tyS (qV (.slice Ax d.acts.length cx) nil (.slice Ar d.roles.length cr) (.slice Ay d.objs.length cy) (.slice Ag d.grps.length cg) nil nil nil nil nil nil).toList
            have HF := Aside0.mk (Tn.mk (p := (Pol.mk d A0 c0 A1 c1 A2 c2 A3 c3 A4 c4 A5 c5 A6 c6 A7 c7 A8 c8 A9 c9 A10 c10)) (gv := gv) (HB0.out.below hbb) (HV0.out.below hbb) hS3 hRA hRC (below_then HW0.out HW0.out.size hbb))
            clear hS3 hbb hRA hRC hHeld
            go_wp2
            go_meet
            exact ⟨g3, _, _, _, _, _, _, _, _, _, _, _, _, rfl, HG3, HF⟩
        · have hz := z39
          refine GDiffer.step_run (w' := World.alloc wHRO (.cells #[.slice none 0 0, .slice none 0 0, .slice none 0 0, .slice none 0 0, .slice none 0 0, .slice none 0 0, .slice none 0 0, .slice none 0 0, .slice none 0 0, .slice none 0 0, .slice none 0 0] 39)) (v := .pointer (some ⟨World.heap wHRO |>.size, 0, none⟩)) rfl rfl (by go_simp) ?_
          clear hz
          have hs3 : Stays (World.alloc wHRO (.cells #[.slice none 0 0, .slice none 0 0, .slice none 0 0, .slice none 0 0, .slice none 0 0, .slice none 0 0, .slice none 0 0, .slice none 0 0, .slice none 0 0, .slice none 0 0, .slice none 0 0] 39)) (World.heap wHRO).size #[.slice none 0 0, .slice none 0 0, .slice none 0 0, .slice none 0 0, .slice none 0 0, .slice none 0 0, .slice none 0 0, .slice none 0 0, .slice none 0 0, .slice none 0 0, .slice none 0 0] 39 := heap_alloc_new wHRO _
          have hb := below_alloc (Below.refl _ wHRO) (.cells #[.slice none 0 0, .slice none 0 0, .slice none 0 0, .slice none 0 0, .slice none 0 0, .slice none 0 0, .slice none 0 0, .slice none 0 0, .slice none 0 0, .slice none 0 0, .slice none 0 0] 39)
          have HB4 := Aside0.mk (below_then HB3.out HB3.out.size hb)
          have hle : W0.heap.size ≤ (World.heap wHRO).size := HB3.out.size
          have HA := Aside0.mk (Kd.R_below HA.out hb)
          obtain ⟨W7, hW7⟩ : ∃ W7, W7 = World.alloc wHRO (.cells #[.slice none 0 0, .slice none 0 0, .slice none 0 0, .slice none 0 0, .slice none 0 0, .slice none 0 0, .slice none 0 0, .slice none 0 0, .slice none 0 0, .slice none 0 0, .slice none 0 0] 39) := ⟨_, rfl⟩
          obtain ⟨g3, hg3⟩ : ∃ g3, g3 = (World.heap wHRO).size := ⟨_, rfl⟩
          rw [← hW7] at hs3 HB4 HA ⊢
          rw [← hg3] at hs3 hle ⊢
          have HS3 := Aside0.mk hs3
          have HLE := Aside0.mk hle
          have HG3 := Aside0.mk (show gv < g3 by have := (Array.getElem?_eq_some_iff.1 HV0.out).1; omega)
          clear hs3 hb hle hW7 hg3
          refine hK.out _ _ ⟨pw_cell_below HB4.out (HB0.out.cell 0), pw_cell_below HB4.out (HB0.out.cell 2), pw_cell_below HB4.out (HB0.out.cell 3), pw_cell_below HB4.out (HB0.out.cell 4)⟩ (fun hHeld => ?_)
          clear hK K
          refine norm_ (a' := ?_) ?_ ?_
          rotate_left
          · show Act.put _ (some 3) _ = _
            simp only [Act.put, List.setIfInBounds_toArray, List.set_cons_zero, List.set_cons_succ]
            rfl
          refine one_ (i := 8) (N := some 14) #[true, true, true, true, true, true, true, true, true, true, true, false, false, true, false] rfl rfl (by kernel_rfl) (by decide) (fun K hK => ?_)
          refine goes_ Try.func71 (by kernel_rfl) rfl #[.slice A3 d.objs.length c3] (by rfl) rfl rfl (by (try simp only [List.map_toArray, List.map_cons, List.map_nil]); first | done | rfl) ?_
          refine (texts_go A3 c3 d.objs _ ((HP.out.below (below_then HW0.out HW0.out.size HB4.out)).h3) HP.out.l3 HK.out.objs).mono ?_
          rintro e wHC ⟨vv, rfl, hR, hb⟩
          obtain ⟨Ay, cy, rfl⟩ := Kd.R_slice hR
          refine ⟨_, rfl, ?_⟩
          have HB5 := Aside0.mk (below_then HB4.out HB4.out.size hb)
          have HA := Aside0.mk (Kd.R_below HA.out hb)
          have HS3 := Aside0.mk (HS3.out.below hb)
          have HC := Aside0.mk (Kd.R_lower hR (Nat.le_trans HW0.out.size HB4.out.size))
          clear hR hb
          refine hK.out _ _ ⟨pw_cell_below HB5.out (HB0.out.cell 0), pw_cell_below HB5.out (HB0.out.cell 2), pw_cell_below HB5.out (HB0.out.cell 3), pw_cell_below HB5.out (HB0.out.cell 4)⟩ (fun hHeld => ?_)
          clear hK K
          refine norm_ (a' := ?_) ?_ ?_
          rotate_left
          · show Act.put _ (some 14) _ = _
            simp only [Act.put, List.setIfInBounds_toArray, List.set_cons_zero, List.set_cons_succ]
            rfl
          refine one_ (i := 11) (N := some 17) #[true, true, true, true, true, true, true, true, true, true, true, true, false, true, false] rfl rfl (by kernel_rfl) (by decide) (fun K hK => ?_)
          refine goes_ Try.func71 (by kernel_rfl) rfl #[.slice A4 d.grps.length c4] (by rfl) rfl rfl (by (try simp only [List.map_toArray, List.map_cons, List.map_nil]); first | done | rfl) ?_
          refine (texts_go A4 c4 d.grps _ ((HP.out.below (below_then HW0.out HW0.out.size HB5.out)).h4) HP.out.l4 HK.out.grps).mono ?_
          rintro e wHGR ⟨vv, rfl, hR, hb⟩
          obtain ⟨Ag, cg, rfl⟩ := Kd.R_slice hR
          refine ⟨_, rfl, ?_⟩
          have HB6 := Aside0.mk (below_then HB5.out HB5.out.size hb)
          have HA := Aside0.mk (Kd.R_below HA.out hb)
          have HS3 := Aside0.mk (HS3.out.below hb)
          have HC := Aside0.mk (Kd.R_below HC.out hb)
          clear hR hb
          refine hK.out _ _ ⟨pw_cell_below HB6.out (HB0.out.cell 0), pw_cell_below HB6.out (HB0.out.cell 2), pw_cell_below HB6.out (HB0.out.cell 3), pw_cell_below HB6.out (HB0.out.cell 4)⟩ (fun hHeld => ?_)
          clear hK K
          refine norm_ (a' := ?_) ?_ ?_
          rotate_left
          · show Act.put _ (some 17) _ = _
            simp only [Act.put, List.setIfInBounds_toArray, List.set_cons_zero, List.set_cons_succ]
            rfl
          have hz := z39
          refine pure_ (i := 12) (N := some 18) (v := ?_) (a' := ?_) #[true, true, true, true, true, true, true, true, true, true, true, true, true, true, false] rfl rfl (by kernel_rfl) (fun _ _ _ h => h) (Or.inl ⟨by rfl, ?_⟩) ?_ ?_
          rotate_left
          · intro w'
            go_simp
            with_reducible rfl
          rotate_left
          · simp only [Act.put, List.setIfInBounds_toArray, List.set_cons_zero, List.set_cons_succ]
            rfl
          clear hz
          refine last_ (i := 14) (N := none) #[true, true, true, true, true, true, true, true, true, true, true, true, true, true, true] rfl rfl (by kernel_rfl) (by decide) (fun K hK => ?_)
          have hst := run_storeAt_mid (P := Try.prog) wHGR g3 0 39 (qV (.slice Ax d.acts.length cx) nil (.slice Ar d.roles.length cr) (.slice Ay d.objs.length cy) (.slice Ag d.grps.length cg) nil nil nil nil nil nil) (Stays.there (cs := #[.slice none 0 0, .slice none 0 0, .slice none 0 0, .slice none 0 0, .slice none 0 0, .slice none 0 0, .slice none 0 0, .slice none 0 0, .slice none 0 0, .slice none 0 0, .slice none 0 0]) HS3.out) i39 (by simp [qV, nil, Value.oneCell'])
          refine GDiffer.step_skip (w' := World.setCells wHGR g3 0 (qV (.slice Ax d.acts.length cx) nil (.slice Ar d.roles.length cr) (.slice Ay d.objs.length cy) (.slice Ag d.grps.length cg) nil nil nil nil nil nil).toList) rfl rfl (by first | (simp [execOp, Act.eval, hst]; done) | (show Sem.run Try.prog _ _ = _; simp only [execOp, Act.eval]; simp; rw [hst]; rfl)) ?_
          refine hK.out _ _ ?_
          clear hK K hst
          refine done_ (by kernel_rfl) ?_
          have hS3 := setCells_var (vs := (qV (.slice Ax d.acts.length cx) nil (.slice Ar d.roles.length cr) (.slice Ay d.objs.length cy) (.slice Ag d.grps.length cg) nil nil nil nil nil nil)) HS3.out rfl
          have hbb := setCells_below HB6.out HLE.out (qV (.slice Ax d.acts.length cx) nil (.slice Ar d.roles.length cr) (.slice Ay d.objs.length cy) (.slice Ag d.grps.length cg) nil nil nil nil nil nil).toList
          have hRA := R_setCells HA.out HS3.out tyS (qV (.slice Ax d.acts.length cx) nil (.slice Ar d.roles.length cr) (.slice Ay d.objs.length cy) (.slice Ag d.grps.length cg) nil nil nil nil nil nil).toList
          have hRC := R_setCells HC.out HS3.out tyS (qV (.slice Ax d.acts.length cx) nil (.slice Ar d.roles.length cr) (.slice Ay d.objs.length cy) (.slice Ag d.grps.length cg) nil nil nil nil nil nil).toList
          have HF := Aside0.mk (Tn.mk (p := (Pol.mk d A0 c0 A1 c1 A2 c2 A3 c3 A4 c4 A5 c5 A6 c6 A7 c7 A8 c8 A9 c9 A10 c10)) (gv := gv) (HB0.out.below hbb) (HV0.out.below hbb) hS3 hRA hRC (below_then HW0.out HW0.out.size hbb))
          clear hS3 hbb hRA hRC hHeld
          go_wp2
          go_meet
          exact ⟨g3, _, _, _, _, _, _, _, _, _, _, _, _, rfl, HG3, HF⟩
      · have hz := z39
        refine GDiffer.step_run (w' := World.alloc wHA (.cells #[.slice none 0 0, .slice none 0 0, .slice none 0 0, .slice none 0 0, .slice none 0 0, .slice none 0 0, .slice none 0 0, .slice none 0 0, .slice none 0 0, .slice none 0 0, .slice none 0 0] 39)) (v := .pointer (some ⟨World.heap wHA |>.size, 0, none⟩)) rfl rfl (by go_simp) ?_
        clear hz
        have hs3 : Stays (World.alloc wHA (.cells #[.slice none 0 0, .slice none 0 0, .slice none 0 0, .slice none 0 0, .slice none 0 0, .slice none 0 0, .slice none 0 0, .slice none 0 0, .slice none 0 0, .slice none 0 0, .slice none 0 0] 39)) (World.heap wHA).size #[.slice none 0 0, .slice none 0 0, .slice none 0 0, .slice none 0 0, .slice none 0 0, .slice none 0 0, .slice none 0 0, .slice none 0 0, .slice none 0 0, .slice none 0 0, .slice none 0 0] 39 := heap_alloc_new wHA _
        have hb := below_alloc (Below.refl _ wHA) (.cells #[.slice none 0 0, .slice none 0 0, .slice none 0 0, .slice none 0 0, .slice none 0 0, .slice none 0 0, .slice none 0 0, .slice none 0 0, .slice none 0 0, .slice none 0 0, .slice none 0 0] 39)
        have HB3 := Aside0.mk (below_then HB2.out HB2.out.size hb)
        have hle : W0.heap.size ≤ (World.heap wHA).size := HB2.out.size
        have HA := Aside0.mk (Kd.R_below HA.out hb)
        obtain ⟨W7, hW7⟩ : ∃ W7, W7 = World.alloc wHA (.cells #[.slice none 0 0, .slice none 0 0, .slice none 0 0, .slice none 0 0, .slice none 0 0, .slice none 0 0, .slice none 0 0, .slice none 0 0, .slice none 0 0, .slice none 0 0, .slice none 0 0] 39) := ⟨_, rfl⟩
        obtain ⟨g3, hg3⟩ : ∃ g3, g3 = (World.heap wHA).size := ⟨_, rfl⟩
        rw [← hW7] at hs3 HB3 HA ⊢
        rw [← hg3] at hs3 hle ⊢
        have HS3 := Aside0.mk hs3
        have HLE := Aside0.mk hle
        have HG3 := Aside0.mk (show gv < g3 by have := (Array.getElem?_eq_some_iff.1 HV0.out).1; omega)
        clear hs3 hb hle hW7 hg3
        refine hK.out _ _ ⟨pw_cell_below HB3.out (HB0.out.cell 0), pw_cell_below HB3.out (HB0.out.cell 2), pw_cell_below HB3.out (HB0.out.cell 3), pw_cell_below HB3.out (HB0.out.cell 4)⟩ (fun hHeld => ?_)
        clear hK K
        refine norm_ (a' := ?_) ?_ ?_
        rotate_left
        · show Act.put _ (some 3) _ = _
          simp only [Act.put, List.setIfInBounds_toArray, List.set_cons_zero, List.set_cons_succ]
          rfl
        refine one_ (i := 5) (N := some 11) #[true, true, true, true, true, true, true, true, false, true, true, false, false, true, false] rfl rfl (by kernel_rfl) (by decide) (fun K hK => ?_)
        refine goes_ Try.func71 (by kernel_rfl) rfl #[.slice A2 d.roles.length c2] (by rfl) rfl rfl (by (try simp only [List.map_toArray, List.map_cons, List.map_nil]); first | done | rfl) ?_
        refine (texts_go A2 c2 d.roles _ ((HP.out.below (below_then HW0.out HW0.out.size HB3.out)).h2) HP.out.l2 HK.out.roles).mono ?_
        rintro e wHRO ⟨vv, rfl, hR, hb⟩
        obtain ⟨Ar, cr, rfl⟩ := Kd.R_slice hR
        refine ⟨_, rfl, ?_⟩
        have HB4 := Aside0.mk (below_then HB3.out HB3.out.size hb)
        have HA := Aside0.mk (Kd.R_below HA.out hb)
        have HS3 := Aside0.mk (HS3.out.below hb)
        clear hR hb
        refine hK.out _ _ ⟨pw_cell_below HB4.out (HB0.out.cell 0), pw_cell_below HB4.out (HB0.out.cell 2), pw_cell_below HB4.out (HB0.out.cell 3), pw_cell_below HB4.out (HB0.out.cell 4)⟩ (fun hHeld => ?_)
        clear hK K
        refine norm_ (a' := ?_) ?_ ?_
        rotate_left
        · show Act.put _ (some 11) _ = _
          simp only [Act.put, List.setIfInBounds_toArray, List.set_cons_zero, List.set_cons_succ]
          rfl
        refine one_ (i := 8) (N := some 14) #[true, true, true, true, true, true, true, true, true, true, true, false, false, true, false] rfl rfl (by kernel_rfl) (by decide) (fun K hK => ?_)
        refine goes_ Try.func71 (by kernel_rfl) rfl #[.slice A3 d.objs.length c3] (by rfl) rfl rfl (by (try simp only [List.map_toArray, List.map_cons, List.map_nil]); first | done | rfl) ?_
        refine (texts_go A3 c3 d.objs _ ((HP.out.below (below_then HW0.out HW0.out.size HB4.out)).h3) HP.out.l3 HK.out.objs).mono ?_
        rintro e wHC ⟨vv, rfl, hR, hb⟩
        obtain ⟨Ay, cy, rfl⟩ := Kd.R_slice hR
        refine ⟨_, rfl, ?_⟩
        have HB5 := Aside0.mk (below_then HB4.out HB4.out.size hb)
        have HA := Aside0.mk (Kd.R_below HA.out hb)
        have HS3 := Aside0.mk (HS3.out.below hb)
        have HC := Aside0.mk (Kd.R_lower hR (Nat.le_trans HW0.out.size HB4.out.size))
        clear hR hb
        refine hK.out _ _ ⟨pw_cell_below HB5.out (HB0.out.cell 0), pw_cell_below HB5.out (HB0.out.cell 2), pw_cell_below HB5.out (HB0.out.cell 3), pw_cell_below HB5.out (HB0.out.cell 4)⟩ (fun hHeld => ?_)
        clear hK K
        refine norm_ (a' := ?_) ?_ ?_
        rotate_left
        · show Act.put _ (some 14) _ = _
          simp only [Act.put, List.setIfInBounds_toArray, List.set_cons_zero, List.set_cons_succ]
          rfl
        refine one_ (i := 11) (N := some 17) #[true, true, true, true, true, true, true, true, true, true, true, true, false, true, false] rfl rfl (by kernel_rfl) (by decide) (fun K hK => ?_)
        refine goes_ Try.func71 (by kernel_rfl) rfl #[.slice A4 d.grps.length c4] (by rfl) rfl rfl (by (try simp only [List.map_toArray, List.map_cons, List.map_nil]); first | done | rfl) ?_
        refine (texts_go A4 c4 d.grps _ ((HP.out.below (below_then HW0.out HW0.out.size HB5.out)).h4) HP.out.l4 HK.out.grps).mono ?_
        rintro e wHGR ⟨vv, rfl, hR, hb⟩
        obtain ⟨Ag, cg, rfl⟩ := Kd.R_slice hR
        refine ⟨_, rfl, ?_⟩
        have HB6 := Aside0.mk (below_then HB5.out HB5.out.size hb)
        have HA := Aside0.mk (Kd.R_below HA.out hb)
        have HS3 := Aside0.mk (HS3.out.below hb)
        have HC := Aside0.mk (Kd.R_below HC.out hb)
        clear hR hb
        refine hK.out _ _ ⟨pw_cell_below HB6.out (HB0.out.cell 0), pw_cell_below HB6.out (HB0.out.cell 2), pw_cell_below HB6.out (HB0.out.cell 3), pw_cell_below HB6.out (HB0.out.cell 4)⟩ (fun hHeld => ?_)
        clear hK K
        refine norm_ (a' := ?_) ?_ ?_
        rotate_left
        · show Act.put _ (some 17) _ = _
          simp only [Act.put, List.setIfInBounds_toArray, List.set_cons_zero, List.set_cons_succ]
          rfl
        have hz := z39
        refine pure_ (i := 12) (N := some 18) (v := ?_) (a' := ?_) #[true, true, true, true, true, true, true, true, true, true, true, true, true, true, false] rfl rfl (by kernel_rfl) (fun _ _ _ h => h) (Or.inl ⟨by rfl, ?_⟩) ?_ ?_
        rotate_left
        · intro w'
          go_simp
          with_reducible rfl
        rotate_left
        · simp only [Act.put, List.setIfInBounds_toArray, List.set_cons_zero, List.set_cons_succ]
          rfl
        clear hz
        refine last_ (i := 14) (N := none) #[true, true, true, true, true, true, true, true, true, true, true, true, true, true, true] rfl rfl (by kernel_rfl) (by decide) (fun K hK => ?_)
        have hst := run_storeAt_mid (P := Try.prog) wHGR g3 0 39 (qV (.slice Ax d.acts.length cx) nil (.slice Ar d.roles.length cr) (.slice Ay d.objs.length cy) (.slice Ag d.grps.length cg) nil nil nil nil nil nil) (Stays.there (cs := #[.slice none 0 0, .slice none 0 0, .slice none 0 0, .slice none 0 0, .slice none 0 0, .slice none 0 0, .slice none 0 0, .slice none 0 0, .slice none 0 0, .slice none 0 0, .slice none 0 0]) HS3.out) i39 (by simp [qV, nil, Value.oneCell'])
        refine GDiffer.step_skip (w' := World.setCells wHGR g3 0 (qV (.slice Ax d.acts.length cx) nil (.slice Ar d.roles.length cr) (.slice Ay d.objs.length cy) (.slice Ag d.grps.length cg) nil nil nil nil nil nil).toList) rfl rfl (by first | (simp [execOp, Act.eval, hst]; done) | (show Sem.run Try.prog _ _ = _; simp only [execOp, Act.eval]; simp; rw [hst]; rfl)) ?_
        refine hK.out _ _ ?_
        clear hK K hst
        refine done_ (by kernel_rfl) ?_
        have hS3 := setCells_var (vs := (qV (.slice Ax d.acts.length cx) nil (.slice Ar d.roles.length cr) (.slice Ay d.objs.length cy) (.slice Ag d.grps.length cg) nil nil nil nil nil nil)) HS3.out rfl
        have hbb := setCells_below HB6.out HLE.out (qV (.slice Ax d.acts.length cx) nil (.slice Ar d.roles.length cr) (.slice Ay d.objs.length cy) (.slice Ag d.grps.length cg) nil nil nil nil nil nil).toList
        have hRA := R_setCells HA.out HS3.out tyS (qV (.slice Ax d.acts.length cx) nil (.slice Ar d.roles.length cr) (.slice Ay d.objs.length cy) (.slice Ag d.grps.length cg) nil nil nil nil nil nil).toList
        have hRC := R_setCells HC.out HS3.out tyS (qV (.slice Ax d.acts.length cx) nil (.slice Ar d.roles.length cr) (.slice Ay d.objs.length cy) (.slice Ag d.grps.length cg) nil nil nil nil nil nil).toList
        have HF := Aside0.mk (Tn.mk (p := (Pol.mk d A0 c0 A1 c1 A2 c2 A3 c3 A4 c4 A5 c5 A6 c6 A7 c7 A8 c8 A9 c9 A10 c10)) (gv := gv) (HB0.out.below hbb) (HV0.out.below hbb) hS3 hRA hRC (below_then HW0.out HW0.out.size hbb))
        clear hS3 hbb hRA hRC hHeld
        go_wp2
        go_meet
        exact ⟨g3, _, _, _, _, _, _, _, _, _, _, _, _, rfl, HG3, HF⟩
    · have hz := z39
      refine GDiffer.step_run (w' := World.alloc W1 (.cells #[.slice none 0 0, .slice none 0 0, .slice none 0 0, .slice none 0 0, .slice none 0 0, .slice none 0 0, .slice none 0 0, .slice none 0 0, .slice none 0 0, .slice none 0 0, .slice none 0 0] 39)) (v := .pointer (some ⟨World.heap W1 |>.size, 0, none⟩)) rfl rfl (by go_simp) ?_
      clear hz
      have hs3 : Stays (World.alloc W1 (.cells #[.slice none 0 0, .slice none 0 0, .slice none 0 0, .slice none 0 0, .slice none 0 0, .slice none 0 0, .slice none 0 0, .slice none 0 0, .slice none 0 0, .slice none 0 0, .slice none 0 0] 39)) (World.heap W1).size #[.slice none 0 0, .slice none 0 0, .slice none 0 0, .slice none 0 0, .slice none 0 0, .slice none 0 0, .slice none 0 0, .slice none 0 0, .slice none 0 0, .slice none 0 0, .slice none 0 0] 39 := heap_alloc_new W1 _
      have hb := below_alloc (Below.refl _ W1) (.cells #[.slice none 0 0, .slice none 0 0, .slice none 0 0, .slice none 0 0, .slice none 0 0, .slice none 0 0, .slice none 0 0, .slice none 0 0, .slice none 0 0, .slice none 0 0, .slice none 0 0] 39)
      have HB2 := Aside0.mk (below_then HB1.out HB1.out.size hb)
      have hle : W0.heap.size ≤ (World.heap W1).size := HB1.out.size
      obtain ⟨W7, hW7⟩ : ∃ W7, W7 = World.alloc W1 (.cells #[.slice none 0 0, .slice none 0 0, .slice none 0 0, .slice none 0 0, .slice none 0 0, .slice none 0 0, .slice none 0 0, .slice none 0 0, .slice none 0 0, .slice none 0 0, .slice none 0 0] 39) := ⟨_, rfl⟩
      obtain ⟨g3, hg3⟩ : ∃ g3, g3 = (World.heap W1).size := ⟨_, rfl⟩
      rw [← hW7] at hs3 HB2 ⊢
      rw [← hg3] at hs3 hle ⊢
      have HS3 := Aside0.mk hs3
      have HLE := Aside0.mk hle
      have HG3 := Aside0.mk (show gv < g3 by have := (Array.getElem?_eq_some_iff.1 HV0.out).1; omega)
      clear hs3 hb hle hW7 hg3
      refine hK.out _ _ ⟨pw_cell_below HB2.out (HB0.out.cell 0), pw_cell_below HB2.out (HB0.out.cell 2), pw_cell_below HB2.out (HB0.out.cell 3), pw_cell_below HB2.out (HB0.out.cell 4)⟩ (fun hHeld => ?_)
      clear hK K
      refine norm_ (a' := ?_) ?_ ?_
      rotate_left
      · show Act.put _ (some 3) _ = _
        simp only [Act.put, List.setIfInBounds_toArray, List.set_cons_zero, List.set_cons_succ]
        rfl
      refine one_ (i := 2) (N := some 8) #[true, true, true, true, true, false, true, true, false, true, true, false, false, true, false] rfl rfl (by kernel_rfl) (by decide) (fun K hK => ?_)
      refine goes_ Try.func71 (by kernel_rfl) rfl #[.slice A0 d.acts.length c0] (by rfl) rfl rfl (by (try simp only [List.map_toArray, List.map_cons, List.map_nil]); first | done | rfl) ?_
      refine (texts_go A0 c0 d.acts _ ((HP.out.below (below_then HW0.out HW0.out.size HB2.out)).h0) HP.out.l0 HK.out.acts).mono ?_
      rintro e wHA ⟨vv, rfl, hR, hb⟩
      obtain ⟨Ax, cx, rfl⟩ := Kd.R_slice hR
      refine ⟨_, rfl, ?_⟩
      have HB3 := Aside0.mk (below_then HB2.out HB2.out.size hb)
      have HS3 := Aside0.mk (HS3.out.below hb)
      have HA := Aside0.mk (Kd.R_lower hR (Nat.le_trans HW0.out.size HB2.out.size))
      clear hR hb
      refine hK.out _ _ ⟨pw_cell_below HB3.out (HB0.out.cell 0), pw_cell_below HB3.out (HB0.out.cell 2), pw_cell_below HB3.out (HB0.out.cell 3), pw_cell_below HB3.out (HB0.out.cell 4)⟩ (fun hHeld => ?_)
      clear hK K
      refine norm_ (a' := ?_) ?_ ?_
      rotate_left
      · show Act.put _ (some 8) _ = _
        simp only [Act.put, List.setIfInBounds_toArray, List.set_cons_zero, List.set_cons_succ]
        rfl
      refine one_ (i := 5) (N := some 11) #[true, true, true, true, true, true, true, true, false, true, true, false, false, true, false] rfl rfl (by kernel_rfl) (by decide) (fun K hK => ?_)
      refine goes_ Try.func71 (by kernel_rfl) rfl #[.slice A2 d.roles.length c2] (by rfl) rfl rfl (by (try simp only [List.map_toArray, List.map_cons, List.map_nil]); first | done | rfl) ?_
      refine (texts_go A2 c2 d.roles _ ((HP.out.below (below_then HW0.out HW0.out.size HB3.out)).h2) HP.out.l2 HK.out.roles).mono ?_
      rintro e wHRO ⟨vv, rfl, hR, hb⟩
      obtain ⟨Ar, cr, rfl⟩ := Kd.R_slice hR
      refine ⟨_, rfl, ?_⟩
      have HB4 := Aside0.mk (below_then HB3.out HB3.out.size hb)
      have HS3 := Aside0.mk (HS3.out.below hb)
      have HA := Aside0.mk (Kd.R_below HA.out hb)
      clear hR hb
      refine hK.out _ _ ⟨pw_cell_below HB4.out (HB0.out.cell 0), pw_cell_below HB4.out (HB0.out.cell 2), pw_cell_below HB4.out (HB0.out.cell 3), pw_cell_below HB4.out (HB0.out.cell 4)⟩ (fun hHeld => ?_)
      clear hK K
      refine norm_ (a' := ?_) ?_ ?_
      rotate_left
      · show Act.put _ (some 11) _ = _
        simp only [Act.put, List.setIfInBounds_toArray, List.set_cons_zero, List.set_cons_succ]
        rfl
      refine one_ (i := 8) (N := some 14) #[true, true, true, true, true, true, true, true, true, true, true, false, false, true, false] rfl rfl (by kernel_rfl) (by decide) (fun K hK => ?_)
      refine goes_ Try.func71 (by kernel_rfl) rfl #[.slice A3 d.objs.length c3] (by rfl) rfl rfl (by (try simp only [List.map_toArray, List.map_cons, List.map_nil]); first | done | rfl) ?_
      refine (texts_go A3 c3 d.objs _ ((HP.out.below (below_then HW0.out HW0.out.size HB4.out)).h3) HP.out.l3 HK.out.objs).mono ?_
      rintro e wHC ⟨vv, rfl, hR, hb⟩
      obtain ⟨Ay, cy, rfl⟩ := Kd.R_slice hR
      refine ⟨_, rfl, ?_⟩
      have HB5 := Aside0.mk (below_then HB4.out HB4.out.size hb)
      have HS3 := Aside0.mk (HS3.out.below hb)
      have HA := Aside0.mk (Kd.R_below HA.out hb)
      have HC := Aside0.mk (Kd.R_lower hR (Nat.le_trans HW0.out.size HB4.out.size))
      clear hR hb
      refine hK.out _ _ ⟨pw_cell_below HB5.out (HB0.out.cell 0), pw_cell_below HB5.out (HB0.out.cell 2), pw_cell_below HB5.out (HB0.out.cell 3), pw_cell_below HB5.out (HB0.out.cell 4)⟩ (fun hHeld => ?_)
      clear hK K
      refine norm_ (a' := ?_) ?_ ?_
      rotate_left
      · show Act.put _ (some 14) _ = _
        simp only [Act.put, List.setIfInBounds_toArray, List.set_cons_zero, List.set_cons_succ]
        rfl
      refine one_ (i := 11) (N := some 17) #[true, true, true, true, true, true, true, true, true, true, true, true, false, true, false] rfl rfl (by kernel_rfl) (by decide) (fun K hK => ?_)
      refine goes_ Try.func71 (by kernel_rfl) rfl #[.slice A4 d.grps.length c4] (by rfl) rfl rfl (by (try simp only [List.map_toArray, List.map_cons, List.map_nil]); first | done | rfl) ?_
      refine (texts_go A4 c4 d.grps _ ((HP.out.below (below_then HW0.out HW0.out.size HB5.out)).h4) HP.out.l4 HK.out.grps).mono ?_
      rintro e wHGR ⟨vv, rfl, hR, hb⟩
      obtain ⟨Ag, cg, rfl⟩ := Kd.R_slice hR
      refine ⟨_, rfl, ?_⟩
      have HB6 := Aside0.mk (below_then HB5.out HB5.out.size hb)
      have HS3 := Aside0.mk (HS3.out.below hb)
      have HA := Aside0.mk (Kd.R_below HA.out hb)
      have HC := Aside0.mk (Kd.R_below HC.out hb)
      clear hR hb
      refine hK.out _ _ ⟨pw_cell_below HB6.out (HB0.out.cell 0), pw_cell_below HB6.out (HB0.out.cell 2), pw_cell_below HB6.out (HB0.out.cell 3), pw_cell_below HB6.out (HB0.out.cell 4)⟩ (fun hHeld => ?_)
      clear hK K
      refine norm_ (a' := ?_) ?_ ?_
      rotate_left
      · show Act.put _ (some 17) _ = _
        simp only [Act.put, List.setIfInBounds_toArray, List.set_cons_zero, List.set_cons_succ]
        rfl
      have hz := z39
      refine pure_ (i := 12) (N := some 18) (v := ?_) (a' := ?_) #[true, true, true, true, true, true, true, true, true, true, true, true, true, true, false] rfl rfl (by kernel_rfl) (fun _ _ _ h => h) (Or.inl ⟨by rfl, ?_⟩) ?_ ?_
      rotate_left
      · intro w'
        go_simp
        with_reducible rfl
      rotate_left
      · simp only [Act.put, List.setIfInBounds_toArray, List.set_cons_zero, List.set_cons_succ]
        rfl
      clear hz
      refine last_ (i := 14) (N := none) #[true, true, true, true, true, true, true, true, true, true, true, true, true, true, true] rfl rfl (by kernel_rfl) (by decide) (fun K hK => ?_)
      have hst := run_storeAt_mid (P := Try.prog) wHGR g3 0 39 (qV (.slice Ax d.acts.length cx) nil (.slice Ar d.roles.length cr) (.slice Ay d.objs.length cy) (.slice Ag d.grps.length cg) nil nil nil nil nil nil) (Stays.there (cs := #[.slice none 0 0, .slice none 0 0, .slice none 0 0, .slice none 0 0, .slice none 0 0, .slice none 0 0, .slice none 0 0, .slice none 0 0, .slice none 0 0, .slice none 0 0, .slice none 0 0]) HS3.out) i39 (by simp [qV, nil, Value.oneCell'])
      refine GDiffer.step_skip (w' := World.setCells wHGR g3 0 (qV (.slice Ax d.acts.length cx) nil (.slice Ar d.roles.length cr) (.slice Ay d.objs.length cy) (.slice Ag d.grps.length cg) nil nil nil nil nil nil).toList) rfl rfl (by first | (simp [execOp, Act.eval, hst]; done) | (show Sem.run Try.prog _ _ = _; simp only [execOp, Act.eval]; simp; rw [hst]; rfl)) ?_
      refine hK.out _ _ ?_
      clear hK K hst
      refine done_ (by kernel_rfl) ?_
      have hS3 := setCells_var (vs := (qV (.slice Ax d.acts.length cx) nil (.slice Ar d.roles.length cr) (.slice Ay d.objs.length cy) (.slice Ag d.grps.length cg) nil nil nil nil nil nil)) HS3.out rfl
      have hbb := setCells_below HB6.out HLE.out (qV (.slice Ax d.acts.length cx) nil (.slice Ar d.roles.length cr) (.slice Ay d.objs.length cy) (.slice Ag d.grps.length cg) nil nil nil nil nil nil).toList
      have hRA := R_setCells HA.out HS3.out tyS (qV (.slice Ax d.acts.length cx) nil (.slice Ar d.roles.length cr) (.slice Ay d.objs.length cy) (.slice Ag d.grps.length cg) nil nil nil nil nil nil).toList
      have hRC := R_setCells HC.out HS3.out tyS (qV (.slice Ax d.acts.length cx) nil (.slice Ar d.roles.length cr) (.slice Ay d.objs.length cy) (.slice Ag d.grps.length cg) nil nil nil nil nil nil).toList
      have HF := Aside0.mk (Tn.mk (p := (Pol.mk d A0 c0 A1 c1 A2 c2 A3 c3 A4 c4 A5 c5 A6 c6 A7 c7 A8 c8 A9 c9 A10 c10)) (gv := gv) (HB0.out.below hbb) (HV0.out.below hbb) hS3 hRA hRC (below_then HW0.out HW0.out.size hbb))
      clear hS3 hbb hRA hRC hHeld
      go_wp2
      go_meet
      exact ⟨g3, _, _, _, _, _, _, _, _, _, _, _, _, rfl, HG3, HF⟩
  case rest =>
    obtain ⟨g3, Ba, Br, Bo, Bg, na, nr, no, ng, ka, kr, ko, kg, rfl, HG3, HT3⟩ := hcut
    obtain ⟨W3, hW3⟩ : ∃ W3 : World, W3 = wc := ⟨_, rfl⟩
    subst hW3
    have xg := HT3.out.g.cell 1
    have xb := HT3.out.box.cell 1
    simp only [qV, Pol.cells, List.getElem?_toArray, List.getElem?_cons_zero, List.getElem?_cons_succ] at xg xb
    have HLm := Aside0.mk (show (([] : List Nat).length + d.subs.length) * 24 ≤ 140737488355328 by have h := HK.out.subs; simp only [List.length_nil]; simp only [] at h; omega)
    go_upto_region 3 with ((with_reducible refine gate_builtin (b := .append) (xs := #[.tmp 20, .tmp 22]) rfl ?_); at_builtin; refine Kd.R_append_rows k54 (w0 := W3) (World.heap W3).size rfl (.tmp 20) (.tmp 22) 34 54 (.agg #[(.string ⟨#[]⟩), (.float .f64 0)]) 24 rfl Try.underlying34 inf54 rfl (by decide) (by decide) nil [] d.subs A1 d.subs.length c1 (fun _ => True) (fun _ => False) rfl rfl (Kd.R_nil _ _ _ _ (fun _ => True)) (HP.out.below HT3.out.below).h1 (fun _ _ h => h) (fun _ h => h.elim) (fun _ _ => trivial) (Below.refl _ _) (Nat.le_refl _) HLm.out ?_; intro vv w4 ho hb hg hat; rw [List.nil_append] at ho; obtain ⟨B1, k1, rfl⟩ := Kd.R_slice ho; have HM4 := Aside0.mk (HT3.out.move hb); have x4 := HM4.out.g.cell 1; (simp only [qV, List.getElem?_toArray, List.getElem?_cons_zero, List.getElem?_cons_succ] at x4); have y4 : World.frozen? w4 ⟨g3, 1, none⟩ = false := MPut.frozen_of_row HM4.out.g _; have HR1 := Aside0.mk (Kd.R_lower ho HT3.out.below.size); clear ho hb hg hat xg xb)
    have hT : Tw (Pol.mk d A0 c0 A1 c1 A2 c2 A3 c3 A4 c4 A5 c5 A6 c6 A7 c7 A8 c8 A9 c9 A10 c10) w gv g3 (World.setCell w4 ⟨g3, 1, none⟩ (.slice B1 d.subs.length k1)) (qV (.slice Ba na ka) (.slice B1 d.subs.length k1) (.slice Br nr kr) (.slice Bo no ko) (.slice Bg ng kg) nil nil nil nil nil nil) (.slice Ba na ka) (.slice B1 d.subs.length k1) (.slice Bo no ko) := ⟨HM4.out.set HGV.out HG3.out 1 _, R_set HR1.out HM4.out.g ty54 1 _⟩
    obtain ⟨W4, hW⟩ : ∃ W4, W4 = World.setCell w4 ⟨g3, 1, none⟩ (.slice B1 d.subs.length k1) := ⟨_, rfl⟩
    rw [← hW] at hT ⊢
    have HT4 := Aside0.mk hT
    clear hT hW x4 y4 HM4 HT3 HLm HR1
    have xg := HT4.out.n.g.cell 5
    have xb := HT4.out.n.box.cell 5
    simp only [qV, Pol.cells, List.getElem?_toArray, List.getElem?_cons_zero, List.getElem?_cons_succ] at xg xb
    have HLm := Aside0.mk (show (([] : List Nat).length + d.mem.length) * 32 ≤ 140737488355328 by have h := HK.out.mem; simp only [List.length_nil]; simp only [] at h; omega)
    go_upto_region 4 with ((with_reducible refine gate_builtin (b := .append) (xs := #[.tmp 26, .tmp 28]) rfl ?_); at_builtin; refine Kd.R_append_rows k108 (w0 := W4) (World.heap W4).size rfl (.tmp 26) (.tmp 28) 35 108 (.agg #[(.string ⟨#[]⟩), (.string ⟨#[]⟩)]) 32 rfl Try.underlying35 info108 rfl (by decide) (by decide) nil [] d.mem A5 d.mem.length c5 (fun _ => True) (fun _ => False) rfl rfl (Kd.R_nil _ _ _ _ (fun _ => True)) (HP.out.below HT4.out.n.below).h5 (fun _ _ h => h) (fun _ h => h.elim) (fun _ _ => trivial) (Below.refl _ _) (Nat.le_refl _) HLm.out ?_; intro vv w5 ho hb hg hat; rw [List.nil_append] at ho; obtain ⟨B5, k5, rfl⟩ := Kd.R_slice ho; have HM5 := Aside0.mk (HT4.out.move hb); have x5 := HM5.out.n.g.cell 5; (simp only [qV, List.getElem?_toArray, List.getElem?_cons_zero, List.getElem?_cons_succ] at x5); have y5 : World.frozen? w5 ⟨g3, 5, none⟩ = false := MPut.frozen_of_row HM5.out.n.g _; clear ho hb hg hat xg xb)
    have hT : Tw (Pol.mk d A0 c0 A1 c1 A2 c2 A3 c3 A4 c4 A5 c5 A6 c6 A7 c7 A8 c8 A9 c9 A10 c10) w gv g3 (World.setCell w5 ⟨g3, 5, none⟩ (.slice B5 d.mem.length k5)) (qV (.slice Ba na ka) (.slice B1 d.subs.length k1) (.slice Br nr kr) (.slice Bo no ko) (.slice Bg ng kg) (.slice B5 d.mem.length k5) nil nil nil nil nil) (.slice Ba na ka) (.slice B1 d.subs.length k1) (.slice Bo no ko) := HM5.out.set HGV.out HG3.out 5 _
    obtain ⟨W5, hW⟩ : ∃ W5, W5 = World.setCell w5 ⟨g3, 5, none⟩ (.slice B5 d.mem.length k5) := ⟨_, rfl⟩
    rw [← hW] at hT ⊢
    have HT5 := Aside0.mk hT
    clear hT hW x5 y5 HM5 HT4 HLm
    have xg := HT5.out.n.g.cell 6
    have xb := HT5.out.n.box.cell 6
    simp only [qV, Pol.cells, List.getElem?_toArray, List.getElem?_cons_zero, List.getElem?_cons_succ] at xg xb
    have HLm := Aside0.mk (show (([] : List Nat).length + d.inh.length) * 32 ≤ 140737488355328 by have h := HK.out.inh; simp only [List.length_nil]; simp only [] at h; omega)
    go_upto_region 5 with ((with_reducible refine gate_builtin (b := .append) (xs := #[.tmp 32, .tmp 34]) rfl ?_); at_builtin; refine Kd.R_append_rows k108 (w0 := W5) (World.heap W5).size rfl (.tmp 32) (.tmp 34) 35 108 (.agg #[(.string ⟨#[]⟩), (.string ⟨#[]⟩)]) 32 rfl Try.underlying35 info108 rfl (by decide) (by decide) nil [] d.inh A6 d.inh.length c6 (fun _ => True) (fun _ => False) rfl rfl (Kd.R_nil _ _ _ _ (fun _ => True)) (HP.out.below HT5.out.n.below).h6 (fun _ _ h => h) (fun _ h => h.elim) (fun _ _ => trivial) (Below.refl _ _) (Nat.le_refl _) HLm.out ?_; intro vv w6 ho hb hg hat; rw [List.nil_append] at ho; obtain ⟨B6, k6, rfl⟩ := Kd.R_slice ho; have HM6 := Aside0.mk (HT5.out.move hb); have x6 := HM6.out.n.g.cell 6; (simp only [qV, List.getElem?_toArray, List.getElem?_cons_zero, List.getElem?_cons_succ] at x6); have y6 : World.frozen? w6 ⟨g3, 6, none⟩ = false := MPut.frozen_of_row HM6.out.n.g _; clear ho hb hg hat xg xb)
    have hT : Tw (Pol.mk d A0 c0 A1 c1 A2 c2 A3 c3 A4 c4 A5 c5 A6 c6 A7 c7 A8 c8 A9 c9 A10 c10) w gv g3 (World.setCell w6 ⟨g3, 6, none⟩ (.slice B6 d.inh.length k6)) (qV (.slice Ba na ka) (.slice B1 d.subs.length k1) (.slice Br nr kr) (.slice Bo no ko) (.slice Bg ng kg) (.slice B5 d.mem.length k5) (.slice B6 d.inh.length k6) nil nil nil nil) (.slice Ba na ka) (.slice B1 d.subs.length k1) (.slice Bo no ko) := HM6.out.set HGV.out HG3.out 6 _
    obtain ⟨W6, hW⟩ : ∃ W6, W6 = World.setCell w6 ⟨g3, 6, none⟩ (.slice B6 d.inh.length k6) := ⟨_, rfl⟩
    rw [← hW] at hT ⊢
    have HT6 := Aside0.mk hT
    clear hT hW x6 y6 HM6 HT5 HLm
    have xg := HT6.out.n.g.cell 7
    have xb := HT6.out.n.box.cell 7
    simp only [qV, Pol.cells, List.getElem?_toArray, List.getElem?_cons_zero, List.getElem?_cons_succ] at xg xb
    have HLm := Aside0.mk (show (([] : List Nat).length + d.par.length) * 32 ≤ 140737488355328 by have h := HK.out.par; simp only [List.length_nil]; simp only [] at h; omega)
    go_upto_region 6 with ((with_reducible refine gate_builtin (b := .append) (xs := #[.tmp 38, .tmp 40]) rfl ?_); at_builtin; refine Kd.R_append_rows k108 (w0 := W6) (World.heap W6).size rfl (.tmp 38) (.tmp 40) 35 108 (.agg #[(.string ⟨#[]⟩), (.string ⟨#[]⟩)]) 32 rfl Try.underlying35 info108 rfl (by decide) (by decide) nil [] d.par A7 d.par.length c7 (fun _ => True) (fun _ => False) rfl rfl (Kd.R_nil _ _ _ _ (fun _ => True)) (HP.out.below HT6.out.n.below).h7 (fun _ _ h => h) (fun _ h => h.elim) (fun _ _ => trivial) (Below.refl _ _) (Nat.le_refl _) HLm.out ?_; intro vv w7 ho hb hg hat; rw [List.nil_append] at ho; obtain ⟨B7, k7, rfl⟩ := Kd.R_slice ho; have HM7 := Aside0.mk (HT6.out.move hb); have x7 := HM7.out.n.g.cell 7; (simp only [qV, List.getElem?_toArray, List.getElem?_cons_zero, List.getElem?_cons_succ] at x7); have y7 : World.frozen? w7 ⟨g3, 7, none⟩ = false := MPut.frozen_of_row HM7.out.n.g _; clear ho hb hg hat xg xb)
    have hT : Tw (Pol.mk d A0 c0 A1 c1 A2 c2 A3 c3 A4 c4 A5 c5 A6 c6 A7 c7 A8 c8 A9 c9 A10 c10) w gv g3 (World.setCell w7 ⟨g3, 7, none⟩ (.slice B7 d.par.length k7)) (qV (.slice Ba na ka) (.slice B1 d.subs.length k1) (.slice Br nr kr) (.slice Bo no ko) (.slice Bg ng kg) (.slice B5 d.mem.length k5) (.slice B6 d.inh.length k6) (.slice B7 d.par.length k7) nil nil nil) (.slice Ba na ka) (.slice B1 d.subs.length k1) (.slice Bo no ko) := HM7.out.set HGV.out HG3.out 7 _
    obtain ⟨W7, hW⟩ : ∃ W7, W7 = World.setCell w7 ⟨g3, 7, none⟩ (.slice B7 d.par.length k7) := ⟨_, rfl⟩
    rw [← hW] at hT ⊢
    have HT7 := Aside0.mk hT
    clear hT hW x7 y7 HM7 HT6 HLm
    have xg := HT7.out.n.g.cell 8
    have xb := HT7.out.n.box.cell 8
    simp only [qV, Pol.cells, List.getElem?_toArray, List.getElem?_cons_zero, List.getElem?_cons_succ] at xg xb
    have HLm := Aside0.mk (show (([] : List Nat).length + d.wit.length) * 32 ≤ 140737488355328 by have h := HK.out.wit; simp only [List.length_nil]; simp only [] at h; omega)
    go_upto_region 7 with ((with_reducible refine gate_builtin (b := .append) (xs := #[.tmp 44, .tmp 46]) rfl ?_); at_builtin; refine Kd.R_append_rows k108 (w0 := W7) (World.heap W7).size rfl (.tmp 44) (.tmp 46) 35 108 (.agg #[(.string ⟨#[]⟩), (.string ⟨#[]⟩)]) 32 rfl Try.underlying35 info108 rfl (by decide) (by decide) nil [] d.wit A8 d.wit.length c8 (fun _ => True) (fun _ => False) rfl rfl (Kd.R_nil _ _ _ _ (fun _ => True)) (HP.out.below HT7.out.n.below).h8 (fun _ _ h => h) (fun _ h => h.elim) (fun _ _ => trivial) (Below.refl _ _) (Nat.le_refl _) HLm.out ?_; intro vv w8 ho hb hg hat; rw [List.nil_append] at ho; obtain ⟨B8, k8, rfl⟩ := Kd.R_slice ho; have HM8 := Aside0.mk (HT7.out.move hb); have x8 := HM8.out.n.g.cell 8; (simp only [qV, List.getElem?_toArray, List.getElem?_cons_zero, List.getElem?_cons_succ] at x8); have y8 : World.frozen? w8 ⟨g3, 8, none⟩ = false := MPut.frozen_of_row HM8.out.n.g _; clear ho hb hg hat xg xb)
    have hT : Tw (Pol.mk d A0 c0 A1 c1 A2 c2 A3 c3 A4 c4 A5 c5 A6 c6 A7 c7 A8 c8 A9 c9 A10 c10) w gv g3 (World.setCell w8 ⟨g3, 8, none⟩ (.slice B8 d.wit.length k8)) (qV (.slice Ba na ka) (.slice B1 d.subs.length k1) (.slice Br nr kr) (.slice Bo no ko) (.slice Bg ng kg) (.slice B5 d.mem.length k5) (.slice B6 d.inh.length k6) (.slice B7 d.par.length k7) (.slice B8 d.wit.length k8) nil nil) (.slice Ba na ka) (.slice B1 d.subs.length k1) (.slice Bo no ko) := HM8.out.set HGV.out HG3.out 8 _
    obtain ⟨W8, hW⟩ : ∃ W8, W8 = World.setCell w8 ⟨g3, 8, none⟩ (.slice B8 d.wit.length k8) := ⟨_, rfl⟩
    rw [← hW] at hT ⊢
    have HT8 := Aside0.mk hT
    clear hT hW x8 y8 HM8 HT7 HLm
    obtain ⟨v0, v1, v2, v3, v4, v5, v6, v7, v8, hT8, hone⟩ : ∃ v0 v1 v2 v3 v4 v5 v6 v7 v8 : Value, Tw (Pol.mk d A0 c0 A1 c1 A2 c2 A3 c3 A4 c4 A5 c5 A6 c6 A7 c7 A8 c8 A9 c9 A10 c10) w gv g3 W8 (qV v0 v1 v2 v3 v4 v5 v6 v7 v8 nil nil) v0 v1 v3 ∧ (∀ v ∈ [v0, v1, v2, v3, v4, v5, v6, v7, v8], v.oneCell' = true) := ⟨_, _, _, _, _, _, _, _, _, HT8.out, by simp [Value.oneCell', nil]⟩
    have HW8 := Aside0.mk hT8
    have HONE := Aside0.mk hone
    have HRP0 := Aside0.mk (Rp.mk (W := W8) (Same.refl _ W8) hT8.n.g (Kd.R_nil _ _ _ _ (fun _ => True)) : Rp g3 W8 W8 v0 v1 v2 v3 v4 v5 v6 v7 v8 nil [])
    clear hT8 hone HT8
    go_upto_region 8 with fail
    go_loopw [4] (fun u4 wr => ∃ (i : Nat) (vr : Value), i ≤ d.rules.length ∧ u4 = .int .i64 i ∧ Aside0 (Rp g3 W8 wr v0 v1 v2 v3 v4 v5 v6 v7 v8 vr (d.rules.take i))) (fun u4 _ => d.rules.length - (intOf u4).toNat)
    case atStart => exact ⟨0, nil, Nat.zero_le _, rfl, HRP0⟩
    case round =>
      obtain ⟨i, vr, hi, rfl, HRP⟩ := hrel
      have hbx : Stays wr w.heap.size #[.slice A0 d.acts.length c0, .slice A1 d.subs.length c1, .slice A2 d.roles.length c2, .slice A3 d.objs.length c3, .slice A4 d.grps.length c4, .slice A5 d.mem.length c5, .slice A6 d.inh.length c6, .slice A7 d.par.length c7, .slice A8 d.wit.length c8, .slice A9 d.rules.length c9, .slice A10 d.exc.length c10] 39 := HRP.out.same.stays HW8.out.n.box (by have h1 := HG3.out; have h2 := HGV.out; intro e; have e : w.heap.size = g3 := e; omega)
      have hbw : Below w.heap.size w wr := HRP.out.same.below HW8.out.n.below (fun k hk => by have h1 := HG3.out; have h2 := HGV.out; have hk : k = g3 := hk; omega)
      have e9 := hbx.cell 9
      simp only [List.getElem?_toArray, List.getElem?_cons_zero, List.getElem?_cons_succ] at e9
      have HBW := Aside0.mk hbw
      have HBX := Aside0.mk hbx
      have hrl : d.rules.length < 1759218604440 := HK.out.rules
      clear hbx hbw
      by_cases hlt : i < d.rules.length
      · obtain ⟨ad, cs, e0, hcl, hK, hcell⟩ := Kd.C_get (HP.out.below HBW.out).h9 z78 (i : Int) (by omega) (by simp only []; omega)
        have e0 : A9 = some ad := e0
        subst e0
        have hget : d.rules.getD (i : Int).toNat z78 = d.rules[i] := by simp [hlt]
        have hK : k78.K wr d.rules[i] cs := by rw [← hget]; exact hK
        have htk : d.rules.take (i + 1) = d.rules.take i ++ [d.rules[i]] := List.take_succ_eq_append_getElem hlt
        have hea := HK.out.each d.rules[i] (List.getElem_mem hlt)
        obtain ⟨x, hxx⟩ : ∃ x, x = d.rules[i] := ⟨_, rfl⟩
        rw [← hxx] at hK htk hea
        obtain ⟨A3', c3', rfl, l3, hg3'⟩ := k78_open hK
        have hcw : ∀ (j : Nat) (v : Value), ([.bool x.f0, .string x.f1, .string x.f2, .slice A3' x.f3.length c3', .int .i8 x.f4, .float .f64 x.f5] : List Value)[j]? = some v → wr.cell? ((ad.add (i * 6)).add j) = some v := by
          intro j v hj
          have h0 := hcell j v hj
          have h0 : wr.cell? (ad.add (i * 6 + j)) = some v := h0
          rw [add_add]
          exact h0
        have HCW := Aside0.mk hcw
        have HTK := Aside0.mk htk
        have HL3 := Aside0.mk l3
        have HG3' := Aside0.mk hg3'
        have HEA := Aside0.mk hea
        have c0' : (i : Int) < d.rules.length := by omega
        clear hcell hK hget htk hea hxx hcw hcl l3 hg3'
        go_upto_region 11 with (first | ((with_reducible refine gate_dst (N := 60) rfl ?_); refine wpList_load_at rfl 78 (.tmp 59) rfl (ad.add (i * 6)) ?hx5 [.bool x.f0, .string x.f1, .string x.f2, .slice A3' x.f3.length c3', .int .i8 x.f4, .float .f64 x.f5] HCW.out _ Try.underlying78 rfl i78 ?_; (case hx5 => rfl); refine wpList_alloc_store rfl rfl 78 5 (.tmp 60) rfl rfl rfl #[(.bool false), (.string ⟨#[]⟩), (.string ⟨#[]⟩), (.slice none 0 0), (.int .i8 0), (.float .f64 0)] #[.bool x.f0, .string x.f1, .string x.f2, .slice A3' x.f3.length c3', .int .i8 x.f4, .float .f64 x.f5] _ (z78v _) rfl i78 rfl (by simp [Value.oneCell']) ?hy5 ?hp5 ?_; (case hy5 => rfl); (case hp5 => rfl)))
        (try simp only [Act.put, List.setIfInBounds_toArray, List.set_cons_succ, List.set_cons_zero])
        have hS2 := heap_alloc_new wr (.cells #[.bool x.f0, .string x.f1, .string x.f2, .slice A3' x.f3.length c3', .int .i8 x.f4, .float .f64 x.f5] 78)
        have hb2 := below_alloc (Below.refl _ wr) (.cells #[.bool x.f0, .string x.f1, .string x.f2, .slice A3' x.f3.length c3', .int .i8 x.f4, .float .f64 x.f5] 78)
        obtain ⟨W10, hW10⟩ : ∃ W10, W10 = wr.alloc (.cells #[.bool x.f0, .string x.f1, .string x.f2, .slice A3' x.f3.length c3', .int .i8 x.f4, .float .f64 x.f5] 78) := ⟨_, rfl⟩
        obtain ⟨g5, hg5⟩ : ∃ g5, g5 = wr.heap.size := ⟨_, rfl⟩
        rw [← hg5] at hS2 ⊢
        rw [← hW10] at hS2 hb2 ⊢
        have hS2 : Stays W10 g5 #[.bool x.f0, .string x.f1, .string x.f2, .slice A3' x.f3.length c3', .int .i8 x.f4, .float .f64 x.f5] 78 := hS2
        have hlt5 := (Array.getElem?_eq_some_iff.1 hS2).1
        have x3 := hS2.cell 3
        simp only [List.getElem?_toArray, List.getElem?_cons_zero, List.getElem?_cons_succ] at x3
        have H5 := Aside0.mk hg5
        have HB10 := Aside0.mk hb2
        have HS10 := Aside0.mk hS2
        have HL5 := Aside0.mk hlt5
        clear hS2 hb2 hg5 hW10 hlt5 e9
        go_upto_region 12 with (go_at_call 71; (refine (texts_go A3' c3' x.f3 _ (Kd.C_below HG3'.out HB10.out) HL3.out HEA.out).mono ?_); rintro e w11 ⟨vv, rfl, hR, hb⟩; obtain ⟨Bx, kx, rfl⟩ := Kd.R_slice hR; have HX := Aside0.mk hR; have HB11 := Aside0.mk (below_then HB10.out HB10.out.size hb); have HS11 := Aside0.mk (HS10.out.below hb); have x4 := HS11.out.cell 3; (simp only [List.getElem?_toArray, List.getElem?_cons_zero, List.getElem?_cons_succ] at x4); have y4 : World.frozen? w11 ⟨g5, 3, none⟩ = false := MPut.frozen_of_row HS11.out _; clear hR hb x3)
        have hRP := HRP.out.var HB11.out H5.out 3 (.slice Bx x.f3.length kx)
        have hSV : Stays (World.setCell w11 ⟨g5, 3, none⟩ (.slice Bx x.f3.length kx)) g5 #[.bool x.f0, .string x.f1, .string x.f2, .slice Bx x.f3.length kx, .int .i8 x.f4, .float .f64 x.f5] 78 := stays_set HS11.out 3 _
        have hRX := R_set HX.out HS11.out tyS78 3 (.slice Bx x.f3.length kx)
        have hOW : ∀ k, (Value.slice Bx x.f3.length kx).ownBlock = some k → True ∧ some k ≠ vr.ownBlock := fun k hk => ⟨trivial, fun e => by
          obtain ⟨inner, ho⟩ := Kd.R_own HRP.out.rs
          have h1 := own_lt ho k e.symm
          obtain ⟨inner2, ho2⟩ := Kd.R_own HX.out
          have h2 := own_base ho2 k hk
          have h3 := HB10.out.size
          omega⟩
        have hle : W8.heap.size ≤ W10.heap.size := Nat.le_trans HRP.out.same.size HB10.out.size
        obtain ⟨W12, hW12⟩ : ∃ W12, W12 = World.setCell w11 ⟨g5, 3, none⟩ (.slice Bx x.f3.length kx) := ⟨_, rfl⟩
        rw [← hW12] at hRP hSV hRX ⊢
        have hpM := k78_mkM W12 W8.heap.size (fun k => (Value.slice Bx x.f3.length kx).ownBlock = some k) x (v3 := .slice Bx x.f3.length kx) ⟨fun _ h => h, (Kd.R_lower hRX hle).2.imp_ (fun _ _ h => h)⟩
        have HPM := Aside0.mk hpM
        have HOW := Aside0.mk hOW
        have HRP12 := Aside0.mk hRP
        have HSV := Aside0.mk hSV
        have HSZ := Aside0.mk (hRP.same.size)
        have HLIM := Aside0.mk (show ((d.rules.take i).length + 1) * 80 ≤ 140737488355328 by rw [List.length_take]; omega)
        have x9 := hRP.g.cell 9
        simp only [qV, List.getElem?_toArray, List.getElem?_cons_zero, List.getElem?_cons_succ] at x9
        obtain ⟨rs, hrs⟩ : ∃ rs, rs = d.rules.take i := ⟨_, rfl⟩
        rw [← hrs] at HRP12 HLIM HTK
        clear hRP hSV hRX hOW hle hW12 hpM hrs HRP x4 y4
        go_wp2_with (first | ((with_reducible refine gate_dst (N := 67) rfl ?_); refine wpList_load_blk rfl 78 (.tmp 5) rfl g5 ?hx6 #[.bool x.f0, .string x.f1, .string x.f2, .slice Bx x.f3.length kx, .int .i8 x.f4, .float .f64 x.f5] 78 HSV.out _ Try.underlying78 rfl i78 ?_; (case hx6 => rfl)) | ((with_reducible refine gate_builtin (b := .append) (xs := #[.tmp 66, .tmp 68]) rfl ?_); at_builtin; refine Kd.R_append k78 (w0 := W12) W8.heap.size rfl (.tmp 66) (.tmp 68) 36 78 (.agg #[(.bool false), (.string ⟨#[]⟩), (.string ⟨#[]⟩), (.slice none 0 0), (.int .i8 0), (.float .f64 0)]) 80 rfl Try.underlying36 info78 rfl (by decide) (by decide) vr rs x [.bool x.f0, .string x.f1, .string x.f2, .slice Bx x.f3.length kx, .int .i8 x.f4, .float .f64 x.f5] (fun _ => True) (fun k => (Value.slice Bx x.f3.length kx).ownBlock = some k) rfl rfl HPM.out HOW.out (fun _ _ => trivial) HRP12.out.rs (Below.refl _ _) HSZ.out HLIM.out ?_; intro v9 w13 hR9 hB9 hg9 hat9; obtain ⟨B9, k9, e9'⟩ := Kd.R_slice hR9; obtain ⟨n9, hn9⟩ : ∃ n9, n9 = (rs ++ [x]).length := ⟨_, rfl⟩; rw [← hn9] at e9'; subst e9'; have HRP13 := Aside0.mk (HRP12.out.app hR9 hg9); have hG9 := HRP12.out.kept hg9; have x10 := hG9.cell 9; (simp only [qV, List.getElem?_toArray, List.getElem?_cons_zero, List.getElem?_cons_succ] at x10); have y10 : World.frozen? w13 ⟨g3, 9, none⟩ = false := MPut.frozen_of_row hG9 _; clear hR9 hB9 hg9 hat9 hn9 hG9 x9))
        rw [← HTK.out] at HRP13
        go_roundw
        case rel => exact ⟨i + 1, _, by omega, by go_num, HRP13⟩
        case measure => simp [intOf]; omega
      · have hii : i = d.rules.length := by omega
        clear e9
        have hA := HRP.out
        rw [hii, List.take_length] at hA
        have HRF := Aside0.mk hA
        have HV0 := Aside0.mk (HRP.out.same.toR (off39 HW8.out.n.r0 HW8.out.n.g tyS) (fun _ h => h))
        have HV1 := Aside0.mk (HRP.out.same.toR (off39 HW8.out.r1 HW8.out.n.g ty54) (fun _ h => h))
        have HV3 := Aside0.mk (HRP.out.same.toR (off39 HW8.out.n.r3 HW8.out.n.g tyS) (fun _ h => h))
        have hres := HRP.out.same.stays HW8.out.n.res (by have h1 := HG3.out; intro e; have e : gv = g3 := e; omega)
        obtain ⟨B9, k9, rfl⟩ := Kd.R_slice hA.rs
        obtain ⟨n9, hn9⟩ : ∃ n9, n9 = d.rules.length := ⟨_, rfl⟩
        have hTw : Tw (Pol.mk d A0 c0 A1 c1 A2 c2 A3 c3 A4 c4 A5 c5 A6 c6 A7 c7 A8 c8 A9 c9 A10 c10) w gv g3 wr (qV v0 v1 v2 v3 v4 v5 v6 v7 v8 (.slice B9 d.rules.length k9) nil) v0 v1 v3 := ⟨⟨HBX.out, hres, hA.g, Kd.R_mono HV0.out (fun _ _ => trivial), Kd.R_mono HV3.out (fun _ _ => trivial), HBW.out⟩, Kd.R_mono HV1.out (fun _ _ => trivial)⟩
        rw [← hn9] at hTw
        have HTE := Aside0.mk hTw
        have c0' : ¬ ((i : Int) < d.rules.length) := by omega
        have e9 := HBX.out.cell 9
        simp only [List.getElem?_toArray, List.getElem?_cons_zero, List.getElem?_cons_succ] at e9
        have xg := hTw.n.g.cell 10
        have xb := hTw.n.box.cell 10
        simp only [qV, Pol.cells, List.getElem?_toArray, List.getElem?_cons_zero, List.getElem?_cons_succ] at xg xb
        have HLm := Aside0.mk (show (([] : List S28).length + d.exc.length) * 48 ≤ 140737488355328 by have h : d.exc.length < 2932031007402 := HK.out.exc; simp only [List.length_nil]; omega)
        clear hA hres hn9 hTw HRP HRF HV0 HV1 HV3
        go_upto_region 14 with ((with_reducible refine gate_builtin (b := .append) (xs := #[.tmp 72, .tmp 74]) rfl ?_); at_builtin; refine Kd.R_append_rows k28 (w0 := wr) (World.heap wr).size rfl (.tmp 72) (.tmp 74) 37 28 (.agg #[(.string ⟨#[]⟩), (.string ⟨#[]⟩), (.string ⟨#[]⟩)]) 48 rfl Try.underlying37 inf28 rfl (by decide) (by decide) nil [] d.exc A10 d.exc.length c10 (fun _ => True) (fun _ => False) rfl rfl (Kd.R_nil _ _ _ _ (fun _ => True)) (HP.out.below HTE.out.n.below).h10 (fun _ _ h => h) (fun _ h => h.elim) (fun _ _ => trivial) (Below.refl _ _) (Nat.le_refl _) HLm.out ?_; intro vv w14 ho hb hg hat; rw [List.nil_append] at ho; obtain ⟨B10, k10, rfl⟩ := Kd.R_slice ho; have HM := Aside0.mk (HTE.out.move hb); have x11 := HM.out.n.g.cell 10; (simp only [qV, List.getElem?_toArray, List.getElem?_cons_zero, List.getElem?_cons_succ] at x11); have y11 : World.frozen? w14 ⟨g3, 10, none⟩ = false := MPut.frozen_of_row HM.out.n.g _; clear ho hb hg hat xg xb)
        have hT : Tw (Pol.mk d A0 c0 A1 c1 A2 c2 A3 c3 A4 c4 A5 c5 A6 c6 A7 c7 A8 c8 A9 c9 A10 c10) w gv g3 (World.setCell w14 ⟨g3, 10, none⟩ (.slice B10 d.exc.length k10)) (qV v0 v1 v2 v3 v4 v5 v6 v7 v8 (.slice B9 n9 k9) (.slice B10 d.exc.length k10)) v0 v1 v3 := HM.out.set HGV.out HG3.out 10 _
        obtain ⟨WF, hW⟩ : ∃ WF, WF = World.setCell w14 ⟨g3, 10, none⟩ (.slice B10 d.exc.length k10) := ⟨_, rfl⟩
        rw [← hW] at hT ⊢
        clear hW x11 y11 HM HTE HLm e9
        obtain ⟨G0, hG0⟩ : ∃ G0 : Array Value, G0 = qV v0 v1 v2 v3 v4 v5 v6 v7 v8 (.slice B9 n9 k9) (.slice B10 d.exc.length k10) := ⟨_, rfl⟩
        have hsz : G0.size = 11 := by rw [hG0]; rfl
        have hcells : ∀ v ∈ [v0, v1, v2, v3, v4, v5, v6, v7, v8, .slice B9 n9 k9, .slice B10 d.exc.length k10], v.oneCell' = true := by
          intro v hv
          have hv : v ∈ [v0, v1, v2, v3, v4, v5, v6, v7, v8] ++ [Value.slice B9 n9 k9, .slice B10 d.exc.length k10] := hv
          rcases List.mem_append.1 hv with h | h
          · exact HONE.out v h
          · simp only [List.mem_cons, List.not_mem_nil, or_false] at h
            rcases h with rfl | rfl <;> rfl
        have h1c : G0.all (·.oneCell') = true := by rw [hG0, Array.all_eq_true']; intro v hv; exact hcells v (by simpa using hv)
        rw [← hG0] at hT
        have HF := Aside0.mk hT
        have HSZ := Aside0.mk (show (Try.prog.info? 39).map (·.size) = some G0.size by rw [hsz]; exact i39)
        have HSZ2 := Aside0.mk (show G0.size = (#[.slice none 0 0, .slice none 0 0, .slice none 0 0, .slice none 0 0, .slice none 0 0, .slice none 0 0, .slice none 0 0, .slice none 0 0, .slice none 0 0, .slice none 0 0, .slice none 0 0] : Array Value).size by rw [hsz]; rfl)
        have H1C := Aside0.mk h1c
        have HG0 := Aside0.mk hG0
        have HCE := Aside0.mk hcells
        clear hT hsz h1c hG0 hcells
        go_wp2_with (first | ((with_reducible refine gate_dst (N := 77) rfl ?_); refine wpList_load_blk rfl 39 (.tmp 3) rfl g3 ?hx7 G0 39 HF.out.n.g _ Try.underlying39 rfl HSZ.out ?_; (case hx7 => rfl)) | ((with_reducible refine gate_store (t := 39) (p := 2) (v := .tmp 77) rfl ?_); refine wpList_store_var rfl 39 (.tmp 2) (.tmp 77) rfl gv G0 ?hx8 ?hy8 HF.out.n.res HSZ2.out HSZ.out H1C.out ?_; (case hx8 => rfl); (case hy8 => rfl)))
        (try simp only [Exit.inBlock, Exit.then])
        have hres := setCells_var (vs := G0) HF.out.n.res HSZ2.out
        refine bodyPost_ret (results_single rfl (.cell gv 39 G0 (0, 0) _ rfl hres Try.underlying39 rfl HSZ.out .nil)) rfl ?_
        have p0 := R_setCells HF.out.n.r0 HF.out.n.res tyS G0.toList
        have p1 := R_setCells HF.out.r1 HF.out.n.res ty54 G0.toList
        have p3 := R_setCells HF.out.n.r3 HF.out.n.res tyS G0.toList
        have pb := setCells_below HF.out.n.below (Nat.le_of_lt HGV.out) G0.toList
        exact ⟨v0, v1, v2, v3, v4, v5, v6, v7, v8, .slice B9 n9 k9, .slice B10 d.exc.length k10, by rw [HG0.out], p0, p1, p3, by simpa using HCE.out, pb⟩

end Go.Proofs.Ythaiodklfoegiaa.CTwin

/- A policy as it is handed in, with the lengths that a twin asks. -/
namespace Go.Proofs.Ythaiodklfoegiaa.BPolicy2
open Go.ChangeShapes Go.WideShapes Go.ChangeAt Go.RowKit Go.Proofs.YthaiodklfoegiaaW.PrintWords Go.Proofs.Ythaiodklfoegiaa.Opens Go.Proofs.Ythaiodklfoegiaa.BGraph Go.Proofs.Ythaiodklfoegiaa.MPol Go.Proofs.Ythaiodklfoegiaa.MLines
open Go.Proofs.Ythaiodklfoegiaa.PG Go.Proofs.YthaiodklfoegiaaF

theorem oStr : Opens Try.prog 9 Kd.string (fun s => s.size ≤ 140737488351232) (fun s => s.size + 1) := opens_string Try.underlying9
theorem oFlt : Opens Try.prog 52 kflt (fun _ => True) (fun _ => 1) := (opens_float Try.underlying52).imp (fun _ _ => trivial) (fun _ => Nat.le_refl _)
theorem bytes9 : Try.prog.bytesOf 9 = 16 := by kernel_rfl
theorem bytes54 : Try.prog.bytesOf 54 = 24 := by kernel_rfl
theorem bytes28 : Try.prog.bytesOf 28 = 48 := by kernel_rfl
theorem bytes108 : Try.prog.bytesOf 108 = 32 := by kernel_rfl
theorem bytes78 : Try.prog.bytesOf 78 = 80 := by kernel_rfl

theorem opened_policy {H : Type} {enc : TypeId × Value → H} {W : World} {v : Value} {d : DataW H} {ps : List MemPlace} (h : DataW.Trod enc Try.prog W 0 (fun _ => true) true 39 v d ps) (hs : (DataW.weights Try.prog 39 d).all (· ≤ reachBytes) = true) :
    ∃ p : Pol, v = .agg p.cells ∧ p.In W ∧ p.d.Ok ∧ CTwin.Short p.d := by
  have oStrs := opens_slice (P := Try.prog) 9 (e := 9) Try.underlying22 (by kernel_rfl) oStr
  have oSub := opens_iso (P := Try.prog) (T := 54) (fun x : S54 => (x.f0, x.f1)) (fun a => ⟨a.1, a.2⟩) (fun _ => rfl) (opens_struct (P := Try.prog) (T := 54) (d := Kd.pair Kd.string kflt) Try.underlying54 (by kernel_rfl) (fields_cons (o' := 1) _ (by kernel_rfl) (by rfl) oStr (fields_one _ (by kernel_rfl) oFlt)))
  have oPair := opens_iso (P := Try.prog) (T := 108) (fun x : S108 => (x.f0, x.f1)) (fun a => ⟨a.1, a.2⟩) (fun _ => rfl) (opens_struct (P := Try.prog) (T := 108) (d := Kd.pair Kd.string Kd.string) Try.underlying108 (by kernel_rfl) (fields_cons (o' := 1) _ (by kernel_rfl) (by rfl) oStr (fields_one _ (by kernel_rfl) oStr)))
  have oTri := opens_iso (P := Try.prog) (T := 28) (fun x : S28 => (x.f0, x.f1, x.f2)) (fun a => ⟨a.1, a.2.1, a.2.2⟩) (fun _ => rfl) (opens_struct (P := Try.prog) (T := 28) (d := Kd.pair Kd.string (Kd.pair Kd.string Kd.string)) Try.underlying28 (by kernel_rfl) (fields_cons (o' := 1) _ (by kernel_rfl) (by rfl) oStr (fields_cons (o' := 2) _ (by kernel_rfl) (by rfl) oStr (fields_one _ (by kernel_rfl) oStr))))
  have oRule := opens_iso (P := Try.prog) (T := 78) (fun x : S78 => (x.f0, x.f1, x.f2, x.f3, x.f4, x.f5)) (fun a => ⟨a.1, a.2.1, a.2.2.1, a.2.2.2.1, a.2.2.2.2.1, a.2.2.2.2.2⟩) (fun _ => rfl)
    (opens_struct (P := Try.prog) (T := 78) (d := Kd.pair Kd.bool (Kd.pair Kd.string (Kd.pair Kd.string (Kd.pair (Kd.slice 9 Kd.string) (Kd.pair (Kd.int .i8) kflt))))) Try.underlying78 (by kernel_rfl)
      (fields_cons (o' := 1) _ (by kernel_rfl) (by rfl) (opens_bool Try.underlying4) (fields_cons (o' := 2) _ (by kernel_rfl) (by rfl) oStr (fields_cons (o' := 3) _ (by kernel_rfl) (by rfl) oStr (fields_cons (o' := 4) _ (by kernel_rfl) (by rfl) oStrs (fields_cons (o' := 5) _ (by kernel_rfl) (by rfl) (opens_int (k := .i8) (by kernel_rfl)) (fields_one _ (by kernel_rfl) oFlt)))))))
  have oSubs := opens_slice (P := Try.prog) 54 (e := 54) (d := k54) Try.underlying34 (by kernel_rfl) oSub
  have oPairs := opens_slice (P := Try.prog) 108 (e := 108) (d := k108) Try.underlying35 (by kernel_rfl) oPair
  have oRules := opens_slice (P := Try.prog) 78 (e := 78) (d := k78) Try.underlying36 (by kernel_rfl) oRule
  have oTris := opens_slice (P := Try.prog) 28 (e := 28) (d := k28) Try.underlying37 (by kernel_rfl) oTri
  have oPol := opens_struct (P := Try.prog) (T := 39) Try.underlying39 (by kernel_rfl)
    (fields_cons (o' := 1) _ (by kernel_rfl) (by rfl) oStrs (fields_cons (o' := 2) _ (by kernel_rfl) (by rfl) oSubs (fields_cons (o' := 3) _ (by kernel_rfl) (by rfl) oStrs (fields_cons (o' := 4) _ (by kernel_rfl) (by rfl) oStrs (fields_cons (o' := 5) _ (by kernel_rfl) (by rfl) oStrs
      (fields_cons (o' := 6) _ (by kernel_rfl) (by rfl) oPairs (fields_cons (o' := 7) _ (by kernel_rfl) (by rfl) oPairs (fields_cons (o' := 8) _ (by kernel_rfl) (by rfl) oPairs (fields_cons (o' := 9) _ (by kernel_rfl) (by rfl) oPairs (fields_cons (o' := 10) _ (by kernel_rfl) (by rfl) oRules (fields_one _ (by kernel_rfl) oTris)))))))))))
  obtain ⟨fuel, hf⟩ := h
  obtain ⟨⟨la, ls, lr, lo, lg, lm, li, lp, lw, ru, ex⟩, hK, hg, _⟩ := oPol.out enc W fuel _ _ hf hs
  obtain ⟨_, _, e0, ⟨A0, c0, rfl, h0⟩, _, _, rfl, ⟨A1, c1, rfl, h1⟩, _, _, rfl, ⟨A2, c2, rfl, h2⟩, _, _, rfl, ⟨A3, c3, rfl, h3⟩, _, _, rfl, ⟨A4, c4, rfl, h4⟩, _, _, rfl, ⟨A5, c5, rfl, h5⟩, _, _, rfl, ⟨A6, c6, rfl, h6⟩, _, _, rfl, ⟨A7, c7, rfl, h7⟩, _, _, rfl, ⟨A8, c8, rfl, h8⟩, _, _, rfl, ⟨A9, c9, rfl, h9⟩, ⟨A10, c10, rfl, h10⟩⟩ := hK
  have hv := agg_of_cells e0 (by simp)
  subst hv
  obtain ⟨g0, g1, g2, g3, g4, g5, g6, g7, g8, g9, g10⟩ := hg
  have b5 : lm.length * Try.prog.bytesOf 108 ≤ 140737488351232 := g5.2.1
  have b6 : li.length * Try.prog.bytesOf 108 ≤ 140737488351232 := g6.2.1
  have b7 : lp.length * Try.prog.bytesOf 108 ≤ 140737488351232 := g7.2.1
  have b8 : lw.length * Try.prog.bytesOf 108 ≤ 140737488351232 := g8.2.1
  have b9 : ru.length * Try.prog.bytesOf 78 ≤ 140737488351232 := g9.2.1
  rw [bytes108] at b5 b6 b7 b8
  rw [bytes78] at b9
  have b0 : la.length * Try.prog.bytesOf 9 ≤ 140737488351232 := g0.2.1
  have b1 : ls.length * Try.prog.bytesOf 54 ≤ 140737488351232 := g1.2.1
  have b2 : lr.length * Try.prog.bytesOf 9 ≤ 140737488351232 := g2.2.1
  have b3 : lo.length * Try.prog.bytesOf 9 ≤ 140737488351232 := g3.2.1
  have b4 : lg.length * Try.prog.bytesOf 9 ≤ 140737488351232 := g4.2.1
  have b10 : ex.length * Try.prog.bytesOf 28 ≤ 140737488351232 := g10.2.1
  have bea : ∀ r ∈ ru, r.f3.length * Try.prog.bytesOf 9 ≤ 140737488351232 := fun r hr => (g9.2.2 r hr).2.2.2.1.2.1
  rw [bytes9] at b0 b2 b3 b4
  rw [bytes54] at b1
  rw [bytes28] at b10
  simp only [bytes9] at bea
  refine ⟨⟨⟨la, ls, lr, lo, lg, lm, li, lp, lw, ru, ex⟩, A0, c0, A1, c1, A2, c2, A3, c3, A4, c4, A5, c5, A6, c6, A7, c7, A8, c8, A9, c9, A10, c10⟩, by simp [Pol.cells], ⟨h0.2, h1.2, h2.2, h3.2, h4.2, h5.2, h6.2, h7.2, h8.2, h9.2, h10.2, h0.1, h1.1, h2.1, h3.1, h4.1, h5.1, h6.1, h7.1, h8.1, h9.1, h10.1⟩, ?_, ?_⟩
  · exact { subs := fun s hs => (g1.2.2 s hs).1, objs := fun s hs => g3.2.2 s hs, acts := fun s hs => g0.2.2 s hs,
            mem := fun q hq => g5.2.2 q hq, inh := fun q hq => g6.2.2 q hq, par := fun q hq => g7.2.2 q hq, wit := fun q hq => g8.2.2 q hq,
            rules := fun r hr => ⟨(g9.2.2 r hr).2.1, (g9.2.2 r hr).2.2.1⟩,
            lmem := by show lm.length ≤ _; omega, linh := by show li.length ≤ _; omega, lpar := by show lp.length ≤ _; omega, lwit := by show lw.length ≤ _; omega, lrules := by show ru.length ≤ _; omega }
  · exact { acts := (by show la.length < _; omega), subs := (by show ls.length < _; omega), roles := (by show lr.length < _; omega), objs := (by show lo.length < _; omega), grps := (by show lg.length < _; omega),
            mem := (by show lm.length < _; omega), inh := (by show li.length < _; omega), par := (by show lp.length < _; omega), wit := (by show lw.length < _; omega), rules := (by show ru.length < _; omega), exc := (by show ex.length < _; omega),
            each := fun r hr => by have := bea r hr; omega }
end Go.Proofs.Ythaiodklfoegiaa.BPolicy2

/- A compiled graph decides as the policy allows. -/
namespace Go.Proofs.Ythaiodklfoegiaa.CSays
open Go.RowKit Go.Proofs.YthaiodklfoegiaaW.PrintWords Go.Proofs.YthaiodklfoegiaaW.PrintLast Go.Proofs.YthaiodklfoegiaaW.PrintMore Go.Proofs.Ythaiodklfoegiaa.CPure Go.Proofs.Ythaiodklfoegiaa.CSame Go.Proofs.Ythaiodklfoegiaa.CCompile Go.Proofs.Ythaiodklfoegiaa.GValid Go.Proofs.Ythaiodklfoegiaa.MPol
open Go.Proofs.Ythaiodklfoegiaa Go.Proofs.Ythaiodklfoegiaa.PG

theorem pos_at (s : ByteArray) : ∀ (l : List ByteArray) (n : Nat), (s ∉ l ∧ DecPure.pos l s n = -1) ∨ ∃ i, ∃ h : i < l.length, l[i] = s ∧ DecPure.pos l s n = ((n + i : Nat) : Int)
  | [], n => .inl ⟨by simp, rfl⟩
  | x :: r, n => by
    have hb := beq_str x s
    simp only [DecPure.pos]
    by_cases h : x = s
    · subst h
      exact .inr ⟨0, by simp, rfl, by simp⟩
    · have h' : ¬ x.toList = s.toList := fun e => by
        rw [e, beq_self_eq_true] at hb
        exact h (of_decide_eq_true hb.symm)
      rw [if_neg h']
      rcases pos_at s r (n + 1) with ⟨h1, h2⟩ | ⟨i, h1, h2, h3⟩
      · refine .inl ⟨?_, h2⟩
        rw [List.mem_cons]
        rintro (e | e)
        · exact h e.symm
        · exact h1 e
      · exact .inr ⟨i + 1, by simpa using h1, by simpa using h2, by rw [h3]; congr 1; omega⟩

theorem trust_in (d : PolD) (s : ByteArray) : (d.trust s).isSome = true ↔ s ∈ d.subs.map (·.f0) := by
  rw [List.mem_map]
  constructor
  · intro h
    unfold PolD.trust at h
    cases hf : d.subs.find? (fun x => decide (x.f0 = s)) with
    | none => rw [hf] at h; simp at h
    | some y => exact ⟨y, List.mem_of_find?_eq_some hf, by have := List.find?_some hf; simpa using this⟩
  · rintro ⟨y, hy, he⟩
    obtain ⟨tr, h⟩ := trust_some (d := d) (s := s) ⟨y, hy, he⟩
    rw [h]; rfl
theorem allowB_out {d : PolD} {t : S28} (h : d.allowB t = true) : t.f0 ∈ d.subs.map (·.f0) ∧ t.f1 ∈ d.objs ∧ t.f2 ∈ d.acts := by
  unfold PolD.allowB at h
  simp only [Bool.and_eq_true, decide_eq_true_eq] at h
  exact ⟨(trust_in d _).1 h.1, h.2.1, h.2.2.1⟩

theorem of_bounds {n m : Nat} {M : Nat → Nat → Int} (hn : n ≤ 64) : ∀ x ∈ ofM n m M, 1 ≤ x ∧ x ≤ 64 := by
  intro x hx
  unfold ofM numsOf at hx
  obtain ⟨l, hl, rfl⟩ := List.mem_map.1 hx
  have h1 := num_pos (lines n m M) l
  have h2 := num_le hl
  have h3 := uniq_length (lines n m M)
  rw [lines_length] at h3
  omega
theorem rd_get {l : List Int} {i : Nat} {x : Int} (h : l[i]? = some x) : rd l (i : Int) = x := by simp [rd, h]
theorem rdL3_get {l : List (List Int)} {i : Nat} {x : List Int} (h : l[i]? = some x) : PGraphDecide.rd_L3 l (i : Int) = x := by simp [PGraphDecide.rd_L3, h]

/-- What a compiled graph says at places. -/
theorem says_at {n m : Nat} {M : Nat → Nat → Int} (hn : n ≤ 64) (hm : m ≤ 64) {i j : Nat} (hi : i < n) (hj : j < m) (k : Nat) (hk : k ≤ 15) :
    DecPure.says (ofM n m M) (ofM m n (fun j i => M i j)) (masksM n m M) (i : Int) (j : Int) (k : Int) = (M i j / 2 ^ k % 2 == 1) := by
  obtain ⟨h1, e1⟩ := ofM_get (M := M) (m := m) hi
  obtain ⟨h2, e2⟩ := ofM_get (M := fun j i => M i j) (m := n) hj
  obtain ⟨row, e3, e4⟩ := masks_at (M := M) hn hm hi h1 h2
  have r1 := rd_get e1
  have r2 := rd_get e2
  have q1 : num (lines n m M) (lines n m M)[i] - 1 = ((clsN (lines n m M) (lines n m M)[i] : Nat) : Int) := by unfold num; omega
  have q2 : num (lines m n (fun j i => M i j)) (lines m n (fun j i => M i j))[j] - 1 = ((clsN (lines m n (fun j i => M i j)) (lines m n (fun j i => M i j))[j] : Nat) : Int) := by unfold num; omega
  have p1 := num_pos (lines n m M) (lines n m M)[i]
  have p2 := num_pos (lines m n (fun j i => M i j)) (lines m n (fun j i => M i j))[j]
  have l1 := (List.getElem?_eq_some_iff.1 e3).1
  have l2 := (List.getElem?_eq_some_iff.1 e4).1
  have r3 := rdL3_get e3
  have r4 := rd_get e4
  unfold DecPure.says
  rw [r1, r2, q1, q2, r3, r4, ofM_length, ofM_length]
  rw [if_pos (by refine ⟨by omega, by omega, by omega, by omega, by omega, by omega, p1, by omega, p2, by omega⟩)]
  simp

/-- The graph of a policy. -/
structure Comp (d : PolD) (g : G) : Prop where
  la : g.la = d.acts
  ls : g.ls = d.subs.map (·.f0)
  lo : g.lo = d.objs
  of : g.of = ofM d.subs.length d.objs.length (matD d)
  on : g.on = ofM d.objs.length d.subs.length (fun j i => matD d i j)
  ms : g.ms = masksM d.subs.length d.objs.length (matD d)
theorem says_allow (d : PolD) (hs : d.subs.length ≤ 64) (ho : d.objs.length ≤ 64) (ha : d.acts.length ≤ 16) (t : S28) :
    DecPure.says (ofM d.subs.length d.objs.length (matD d)) (ofM d.objs.length d.subs.length (fun j i => matD d i j)) (masksM d.subs.length d.objs.length (matD d)) (DecPure.pos (d.subs.map (·.f0)) t.f0 0) (DecPure.pos d.objs t.f1 0) (DecPure.pos d.acts t.f2 0) = d.allowB t := by
  have hno : ∀ i j k : Int, (i = -1 ∨ j = -1 ∨ k = -1) → d.allowB t = false → DecPure.says (ofM d.subs.length d.objs.length (matD d)) (ofM d.objs.length d.subs.length (fun j i => matD d i j)) (masksM d.subs.length d.objs.length (matD d)) i j k = d.allowB t := by
    intro i j k h hb
    rw [hb]
    unfold DecPure.says
    rw [if_neg (by omega)]
  have hout : ∀ q : Prop, ¬ q → (d.allowB t = true → q) → d.allowB t = false := fun q h1 h2 => by
    cases hq : d.allowB t with
    | false => rfl
    | true => exact absurd (h2 hq) h1
  rcases pos_at t.f0 (d.subs.map (·.f0)) 0 with ⟨h0, e0⟩ | ⟨i, i0, g0, e0⟩
  · rw [e0]; exact hno _ _ _ (.inl rfl) (hout _ h0 fun h => (allowB_out h).1)
  rcases pos_at t.f1 d.objs 0 with ⟨h1, e1⟩ | ⟨j, i1, g1, e1⟩
  · rw [e1]; exact hno _ _ _ (.inr (.inl rfl)) (hout _ h1 fun h => (allowB_out h).2.1)
  rcases pos_at t.f2 d.acts 0 with ⟨h2, e2⟩ | ⟨k, i2, g2, e2⟩
  · rw [e2]; exact hno _ _ _ (.inr (.inr rfl)) (hout _ h2 fun h => (allowB_out h).2.2)
  rw [e0, e1, e2, Nat.zero_add, Nat.zero_add, Nat.zero_add, says_at hs ho (by simpa using i0) i1 _ (by omega)]
  have g0' : (d.subs.map (·.f0)).getD i ⟨#[]⟩ = t.f0 := by rw [List.getD_eq_getElem?_getD, List.getElem?_eq_getElem i0, Option.getD_some, g0]
  have g1' : d.objs.getD j ⟨#[]⟩ = t.f1 := by rw [List.getD_eq_getElem?_getD, List.getElem?_eq_getElem i1, Option.getD_some, g1]
  have e : (matD d i j / 2 ^ k % 2 == 1) = (maskD d t.f0 t.f1).testBit k := by
    unfold matD
    rw [g0', g1', Nat.testBit_eq_decide_div_mod_eq, Bool.eq_iff_iff, beq_iff_eq, decide_eq_true_iff]
    norm_cast
  rw [e, maskD_bit _ _ _ _ i2, g2]
theorem masks_u16 (d : PolD) (ha : d.acts.length ≤ 16) : ∀ r ∈ masksM d.subs.length d.objs.length (matD d), ∀ x ∈ r, 0 ≤ x ∧ x ≤ 65535 := by
  intro r hr x hx
  unfold masksM at hr
  obtain ⟨i, _, rfl⟩ := List.mem_map.1 hr
  obtain ⟨j, _, rfl⟩ := List.mem_map.1 hx
  have := maskD_lt d ((d.subs.map (·.f0)).getD i ⟨#[]⟩) (d.objs.getD j ⟨#[]⟩) ha
  unfold matD
  omega
theorem masks_short (d : PolD) : (masksM d.subs.length d.objs.length (matD d)).length ≤ d.subs.length ∧ ∀ r ∈ masksM d.subs.length d.objs.length (matD d), r.length ≤ d.objs.length := by
  constructor
  · unfold masksM firstsN
    rw [List.length_map, List.length_map]
    have := uniq_length (lines d.subs.length d.objs.length (matD d))
    rwa [lines_length] at this
  · intro r hr
    unfold masksM at hr
    obtain ⟨i, _, rfl⟩ := List.mem_map.1 hr
    unfold firstsN
    rw [List.length_map, List.length_map]
    have := uniq_length (lines d.objs.length d.subs.length (fun j i => matD d i j))
    rwa [lines_length] at this
/-- graph.Decide of a compiled graph. -/
theorem decide_comp (d : PolD) (hs : d.subs.length ≤ 64) (ho : d.objs.length ≤ 64) (ha : d.acts.length ≤ 16) (g : G) (hc : Comp d g) (w : World) (h : g.In w) (t : S28) (q : Bool) (hq : d.allowB t = q) :
    Calls Try.prog 10 #[g.val, .agg (tripV t)] w fun e w' => e = .returned (.bool q) ∧ Below w.heap.size w w' := by
  subst hq
  have hsh := masks_short d
  have hf := DecPure.program 100 g.la g.ls g.lo g.of g.on g.ms t.f0 t.f1 t.f2 (by rw [hc.la]; omega) (by rw [hc.ls, List.length_map]; omega) (by rw [hc.lo]; omega) (by rw [hc.ms]; omega)
    (fun i => by
      rw [hc.ms]
      unfold PGraphDecide.rd_L3
      rw [List.getD_eq_getElem?_getD]
      cases e : (masksM d.subs.length d.objs.length (matD d))[i.toNat]? with
      | none => simp
      | some r => have := hsh.2 r (List.mem_of_getElem? e); simp; omega)
    (fun x hx => by rw [hc.of] at hx; have := of_bounds hs x hx; omega) (fun x hx => by rw [hc.on] at hx; have := of_bounds ho x hx; omega)
    (fun r hr => by rw [hc.ms] at hr; exact masks_u16 d ha r hr) (by rw [hc.la, hc.ls, hc.lo, List.length_map]; omega)
  have he : DecPure.says g.of g.on g.ms (DecPure.pos g.ls t.f0 0) (DecPure.pos g.lo t.f1 0) (DecPure.pos g.la t.f2 0) = d.allowB t := by
    rw [hc.of, hc.on, hc.ms, hc.ls, hc.lo, hc.la]
    exact says_allow d hs ho ha t
  rw [he] at hf
  exact PGraphDecide.graph_Decide.calls 100 g.A0 g.c0 g.la g.A1 g.c1 g.ls g.A2 g.c2 g.lo g.A3 g.c3 g.of g.A4 g.c4 g.on g.A5 g.c5 g.ms t.f0 t.f1 t.f2 _ w h.h0 h.l0 h.h1 h.l1 h.h2 h.l2 h.h3 h.l3 h.h4 h.l4 h.h5 h.l5 hf
/-- graph.Compile, once more. -/
theorem compile_comp (p : Pol) (w : World) (hp : p.In w) (hd : p.d.Ok) (hs : p.d.subs.length ≤ 64) (ho : p.d.objs.length ≤ 64) (ha : p.d.acts.length ≤ 16) :
    Calls Try.prog 16 #[.agg p.cells] w fun e w' => ∃ g : G, e = .returned g.val ∧ g.In w' ∧ Comp p.d g ∧ Below w.heap.size w w' :=
  (compile_calls p w hp hd hs ho ha).mono fun _ _ ⟨g, h1, h2, h3, h4, h5, h6, h7, h8, h9⟩ => ⟨g, h1, h2, ⟨h3, h4, h5, h6, h7, h8⟩, h9⟩
end Go.Proofs.Ythaiodklfoegiaa.CSays

/- gatehouselaw11.alive: of two subjects one may open one of two doors. -/
namespace Go.Proofs.Ythaiodklfoegiaa.CAlive
open Go.RowKit Go.Proofs.YthaiodklfoegiaaW.PrintWords Go.Proofs.YthaiodklfoegiaaW.PrintLast Go.Proofs.YthaiodklfoegiaaW.PrintMore Go.Proofs.Ythaiodklfoegiaa.BMap Go.Proofs.Ythaiodklfoegiaa.BRow Go.Proofs.Ythaiodklfoegiaa.CPure Go.Proofs.Ythaiodklfoegiaa.CSame Go.Proofs.Ythaiodklfoegiaa.CCompile Go.Proofs.Ythaiodklfoegiaa.CSays Go.Proofs.Ythaiodklfoegiaa.GValid Go.Proofs.Ythaiodklfoegiaa.MLines Go.Proofs.Ythaiodklfoegiaa.MSide Go.Proofs.Ythaiodklfoegiaa.MPol Go.Maps
open Go.Proofs.Ythaiodklfoegiaa Go.Proofs.Ythaiodklfoegiaa.PG

abbrev bRead : ByteArray := ⟨#[114, 101, 97, 100]⟩
abbrev bOpen : ByteArray := ⟨#[111, 112, 101, 110]⟩
abbrev bAnn : ByteArray := ⟨#[97, 110, 110]⟩
abbrev bBob : ByteArray := ⟨#[98, 111, 98]⟩
abbrev bD1 : ByteArray := ⟨#[100, 111, 111, 114, 49]⟩
abbrev bD2 : ByteArray := ⟨#[100, 111, 111, 114, 50]⟩
def rule0 : S78 := ⟨false, bBob, bD2, [bOpen], 0, 0⟩
def d0 : PolD := ⟨[bRead, bOpen], [⟨bAnn, 4607182418800017408⟩, ⟨bBob, 4607182418800017408⟩], [], [bD1, bD2], [], [], [], [], [], [rule0], []⟩
theorem reach_nil {x s : ByteArray} (h : MClose.Reach ([] ++ []) x s) : s = x := by
  rcases MClose.reach_in h with h | h
  · exact h
  · simp at h
open Classical in
theorem allow0 (t : S28) : d0.allowB t = true ↔ t = ⟨bBob, bD2, bOpen⟩ := by
  constructor
  · intro h
    have ho := allowB_out h
    unfold PolD.allowB at h
    simp only [Bool.and_eq_true, decide_eq_true_eq] at h
    have h4 := (allowsF_iff _ _ _).1 h.2.2.2
    obtain ⟨⟨⟨r, hr, hn⟩, _⟩, _⟩ := h4
    unfold PolD.speak at hr
    obtain ⟨hr1, hr2⟩ := List.mem_filter.1 hr
    have hr1 : r = rule0 := by simpa [d0] using hr1
    subst hr1
    unfold speaksB at hr2
    simp only [Bool.and_eq_true, decide_eq_true_eq] at hr2
    have e0 := reach_nil hr2.1
    have e1 := reach_nil hr2.2.1
    have e2 : t.f2 = bOpen := by
      rcases hn with hn | hn
      · simp [rule0] at hn
      · simpa [rule0] using hn
    obtain ⟨a, b, c⟩ := t
    simp only [rule0] at e0 e1 e2
    rw [← e0, ← e1, e2]
  · rintro rfl
    unfold PolD.allowB
    simp only [Bool.and_eq_true, decide_eq_true_eq]
    refine ⟨(trust_in _ _).2 (by simp [d0]), by simp [d0], by simp [d0], ?_⟩
    rw [allowsF_iff]
    have hsp : rule0 ∈ d0.speak bBob bD2 ((d0.trust bBob).getD 0) := by
      unfold PolD.speak
      refine List.mem_filter.2 ⟨by simp [d0], ?_⟩
      unfold speaksB
      simp only [Bool.and_eq_true, decide_eq_true_eq]
      exact ⟨MClose.Reach.here, MClose.Reach.here, by simp [passB, rule0]⟩
    refine ⟨⟨⟨rule0, hsp, .inr (by simp [rule0])⟩, ?_⟩, by simp [d0]⟩
    intro r hr _
    unfold PolD.speak at hr
    have hr1 : r = rule0 := by simpa [d0] using (List.mem_filter.1 hr).1
    subst hr1
    rfl
theorem allow0_no (t : S28) (h : t ≠ ⟨bBob, bD2, bOpen⟩) : d0.allowB t = false := by
  cases hq : d0.allowB t with
  | false => rfl
  | true => exact absurd ((allow0 t).1 hq) h
def m0 (i j : Nat) : Int := if i = 1 ∧ j = 1 then 2 else 0
theorem mask0 (s o : ByteArray) : maskD d0 s o = if s = bBob ∧ o = bD2 then 2 else 0 := by
  refine Nat.eq_of_testBit_eq fun k => ?_
  unfold maskD
  rw [maskN_bit]
  have hl : d0.acts.length = 2 := rfl
  by_cases hk : k < 2
  · have : k = 0 ∨ k = 1 := by omega
    rcases this with rfl | rfl
    · have h0 : d0.allowB ⟨s, o, bRead⟩ = false := allow0_no _ (by intro e; injection e with _ _ e2; exact absurd e2 (by decide))
      have e : d0.acts[0]? = some bRead := rfl
      simp only [e, h0, Bool.and_false]
      split <;> rfl
    · have e : d0.acts[1]? = some bOpen := rfl
      simp only [e, hl]
      by_cases h : s = bBob ∧ o = bD2
      · obtain ⟨rfl, rfl⟩ := h
        rw [if_pos ⟨rfl, rfl⟩, (allow0 _).2 rfl]; rfl
      · rw [if_neg h, allow0_no _ (by intro e; injection e with e0 e1 _; exact h ⟨e0, e1⟩)]; rfl
  · have : decide (k < d0.acts.length) = false := by rw [hl]; simpa using hk
    rw [this, Bool.false_and]
    have hk2 : 2 < 2 ^ k := Nat.lt_of_lt_of_le (by decide : 2 < 2 ^ 2) (Nat.pow_le_pow_right (by omega) (by omega))
    split
    · exact (Nat.testBit_lt_two_pow hk2).symm
    · simp
theorem mat0 (i j : Nat) (hi : i < 2) (hj : j < 2) : matD d0 i j = m0 i j := by
  unfold matD
  rw [mask0]
  have h1 : i = 0 ∨ i = 1 := by omega
  have h2 : j = 0 ∨ j = 1 := by omega
  rcases h1 with rfl | rfl <;> rcases h2 with rfl | rfl
  · rw [if_neg (by decide)]; rfl
  · rw [if_neg (by decide)]; rfl
  · rw [if_neg (by decide)]; rfl
  · rw [if_pos (by decide)]; rfl
theorem lines_congr {n m : Nat} {M N : Nat → Nat → Int} (h : ∀ i j, i < n → j < m → M i j = N i j) : lines n m M = lines n m N := by
  unfold lines
  refine List.map_congr_left fun a ha => List.map_congr_left fun b _ => ?_
  unfold fill
  split
  · rename_i hb; exact h a b (by simpa using ha) hb
  · rfl
theorem masks0 : masksM d0.subs.length d0.objs.length (matD d0) = [[0, 0], [0, 2]] := by
  have e1 : lines 2 2 (matD d0) = lines 2 2 m0 := lines_congr fun i j hi hj => mat0 i j hi hj
  have e2 : lines 2 2 (fun j i => matD d0 i j) = lines 2 2 (fun j i => m0 i j) := lines_congr fun j i hj hi => mat0 i j hi hj
  show masksM 2 2 (matD d0) = _
  unfold masksM
  rw [e1, e2]
  have f1 : firstsN (lines 2 2 m0) = [0, 1] := by decide +kernel
  have f2 : firstsN (lines 2 2 (fun j i => m0 i j)) = [0, 1] := by decide +kernel
  rw [f1, f2]
  simp only [List.map_cons, List.map_nil]
  rw [mat0 0 0 (by omega) (by omega), mat0 0 1 (by omega) (by omega), mat0 1 0 (by omega) (by omega), mat0 1 1 (by omega) (by omega)]
  rfl

/-! ### Lists that lie in a block -/
theorem C_one {α : Type} {dk : Kd α} {w : World} {b t : Nat} {x : α} {cs : Array Value} {cx : List Value} (hS : Stays w b cs t) (hcs : cs.toList = cx) (hx : dk.K w x cx) : Kd.C dk w (some ⟨b, 0, none⟩) 1 [x] := by
  refine ⟨rfl, by decide, fun _ => ⟨_, rfl, fun j p hp => ?_⟩⟩
  have hj : j = 0 := by have := (List.getElem?_eq_some_iff.1 hp).1; simpa using this
  subst hj
  have hp : x = p := by simpa using hp
  subst hp
  refine ⟨cx, dk.K_len hx, hx, fun i u hu => ?_⟩
  have e : ((⟨b, 0, none⟩ : Addr).add (0 * dk.sz + i)) = ⟨b, i, none⟩ := by rw [Addr.add_mid, Nat.zero_mul, Nat.zero_add, Nat.zero_add]
  rw [e, hS.cell, ← Array.getElem?_toList, hcs]
  exact hu
theorem C_two {α : Type} {dk : Kd α} {w : World} {b t : Nat} {x y : α} {cs : Array Value} {cx cy : List Value} (hS : Stays w b cs t) (hcs : cs.toList = cx ++ cy) (hx : dk.K w x cx) (hy : dk.K w y cy) : Kd.C dk w (some ⟨b, 0, none⟩) 2 [x, y] := by
  refine ⟨rfl, by decide, fun _ => ⟨_, rfl, fun j p hp => ?_⟩⟩
  have hj : j < 2 := by have := (List.getElem?_eq_some_iff.1 hp).1; simpa using this
  have hj : j = 0 ∨ j = 1 := by omega
  rcases hj with rfl | rfl
  · have hp : x = p := by simpa using hp
    subst hp
    refine ⟨cx, dk.K_len hx, hx, fun i u hu => ?_⟩
    have e : ((⟨b, 0, none⟩ : Addr).add (0 * dk.sz + i)) = ⟨b, i, none⟩ := by rw [Addr.add_mid, Nat.zero_mul, Nat.zero_add, Nat.zero_add]
    have hi := (List.getElem?_eq_some_iff.1 hu).1
    rw [e, hS.cell, ← Array.getElem?_toList, hcs, List.getElem?_append_left hi]
    exact hu
  · have hp : y = p := by simpa using hp
    subst hp
    refine ⟨cy, dk.K_len hy, hy, fun i u hu => ?_⟩
    have e : ((⟨b, 0, none⟩ : Addr).add (1 * dk.sz + i)) = ⟨b, dk.sz + i, none⟩ := by rw [Addr.add_mid, Nat.one_mul, Nat.zero_add]
    have hl := dk.K_len hx
    rw [e, hS.cell, ← Array.getElem?_toList, hcs, List.getElem?_append_right (by omega), hl, Nat.add_sub_cancel_left]
    exact hu
theorem C_nil {α : Type} (dk : Kd α) (w : World) : Kd.C dk w none 0 [] := ⟨rfl, by decide, fun h => absurd h (by decide)⟩
theorem up {w : World} {o x : Obj} {b : Nat} (h : w.heap[b]? = some x) : (w.alloc o).heap[b]? = some x := (Below.heap_alloc w o b (Array.getElem?_eq_some_iff.1 h).1).trans h
theorem six (w : World) (o0 o1 o2 o3 o4 o5 : Obj) :
    ((((((w.alloc o0).alloc o1).alloc o2).alloc o3).alloc o4).alloc o5).heap[w.heap.size]? = some o0 ∧
    ((((((w.alloc o0).alloc o1).alloc o2).alloc o3).alloc o4).alloc o5).heap[w.heap.size + 1]? = some o1 ∧
    ((((((w.alloc o0).alloc o1).alloc o2).alloc o3).alloc o4).alloc o5).heap[w.heap.size + 1 + 1]? = some o2 ∧
    ((((((w.alloc o0).alloc o1).alloc o2).alloc o3).alloc o4).alloc o5).heap[w.heap.size + 1 + 1 + 1]? = some o3 ∧
    ((((((w.alloc o0).alloc o1).alloc o2).alloc o3).alloc o4).alloc o5).heap[w.heap.size + 1 + 1 + 1 + 1]? = some o4 ∧
    ((((((w.alloc o0).alloc o1).alloc o2).alloc o3).alloc o4).alloc o5).heap[w.heap.size + 1 + 1 + 1 + 1 + 1]? = some o5 ∧
    Below w.heap.size w ((((((w.alloc o0).alloc o1).alloc o2).alloc o3).alloc o4).alloc o5) := by
  have n1 : (w.alloc o0).heap.size = w.heap.size + 1 := World.size_alloc ..
  have n2 : ((w.alloc o0).alloc o1).heap.size = w.heap.size + 1 + 1 := by rw [World.size_alloc, n1]
  have n3 : (((w.alloc o0).alloc o1).alloc o2).heap.size = w.heap.size + 1 + 1 + 1 := by rw [World.size_alloc, n2]
  have n4 : ((((w.alloc o0).alloc o1).alloc o2).alloc o3).heap.size = w.heap.size + 1 + 1 + 1 + 1 := by rw [World.size_alloc, n3]
  have n5 : (((((w.alloc o0).alloc o1).alloc o2).alloc o3).alloc o4).heap.size = w.heap.size + 1 + 1 + 1 + 1 + 1 := by rw [World.size_alloc, n4]
  have h0 := heap_alloc_new w o0
  have h1 := heap_alloc_new (w.alloc o0) o1
  have h2 := heap_alloc_new ((w.alloc o0).alloc o1) o2
  have h3 := heap_alloc_new (((w.alloc o0).alloc o1).alloc o2) o3
  have h4 := heap_alloc_new ((((w.alloc o0).alloc o1).alloc o2).alloc o3) o4
  have h5 := heap_alloc_new (((((w.alloc o0).alloc o1).alloc o2).alloc o3).alloc o4) o5
  rw [n1] at h1
  rw [n2] at h2
  rw [n3] at h3
  rw [n4] at h4
  rw [n5] at h5
  exact ⟨up (up (up (up (up h0)))), up (up (up (up h1))), up (up (up h2)), up (up h3), up h4, h5, by repeat (first | exact Below.refl _ _ | refine below_alloc ?_ _)⟩
/-- The policy, from block b on. -/
def p0 (b : Nat) : Pol := ⟨d0, some ⟨b, 0, none⟩, 2, some ⟨b + 1, 0, none⟩, 2, none, 0, some ⟨b + 1 + 1, 0, none⟩, 2, none, 0, none, 0, none, 0, none, 0, none, 0, some ⟨b + 1 + 1 + 1 + 1, 0, none⟩, 1, none, 0⟩
theorem p0_in {W : World} {b : Nat} (h0 : Stays W b #[.string bRead, .string bOpen] 9) (h1 : Stays W (b + 1) #[.string bAnn, .float .f64 4607182418800017408, .string bBob, .float .f64 4607182418800017408] 54) (h2 : Stays W (b + 1 + 1) #[.string bD1, .string bD2] 9) (h3 : Stays W (b + 1 + 1 + 1) #[.string bOpen] 9)
    (h4 : Stays W (b + 1 + 1 + 1 + 1) #[.bool false, .string bBob, .string bD2, .slice (some ⟨b + 1 + 1 + 1, 0, none⟩) 1 1, .int .i8 0, .float .f64 0] 78) : (p0 b).In W where
  h0 := C_two h0 rfl rfl rfl
  h1 := C_two h1 rfl (k54_mk W ⟨bAnn, 4607182418800017408⟩) (k54_mk W ⟨bBob, 4607182418800017408⟩)
  h2 := C_nil _ _
  h3 := C_two h2 rfl rfl rfl
  h4 := C_nil _ _
  h5 := C_nil _ _
  h6 := C_nil _ _
  h7 := C_nil _ _
  h8 := C_nil _ _
  h9 := C_one h4 rfl (k78_mk W rule0 (A3 := some ⟨b + 1 + 1 + 1, 0, none⟩) (c3 := 1) (Nat.le_refl 1) (C_one h3 rfl rfl))
  h10 := C_nil _ _
  l0 := Nat.le_refl 2
  l1 := Nat.le_refl 2
  l2 := Nat.le_refl 0
  l3 := Nat.le_refl 2
  l4 := Nat.le_refl 0
  l5 := Nat.le_refl 0
  l6 := Nat.le_refl 0
  l7 := Nat.le_refl 0
  l8 := Nat.le_refl 0
  l9 := Nat.le_refl 1
  l10 := Nat.le_refl 0
theorem d0_ok : d0.Ok where
  subs := by intro s hs; simp [d0] at hs; rcases hs with rfl | rfl <;> decide
  objs := by intro s hs; simp [d0] at hs; rcases hs with rfl | rfl <;> decide
  acts := by intro s hs; simp [d0] at hs; rcases hs with rfl | rfl <;> decide
  mem := by simp [d0]
  inh := by simp [d0]
  par := by simp [d0]
  wit := by simp [d0]
  rules := by intro r hr; simp [d0] at hr; subst hr; exact ⟨by decide, by decide⟩
  lmem := by decide
  linh := by decide
  lpar := by decide
  lwit := by decide
  lrules := by decide

/-- A graph's cells. -/
abbrev gC (g : G) : Array Value := #[.slice g.A0 g.la.length g.c0, .slice g.A1 g.ls.length g.c1, .slice g.A2 g.lo.length g.c2, .slice g.A3 g.of.length g.c3, .slice g.A4 g.on.length g.c4, .slice g.A5 g.ms.length g.c5]

theorem compile0 (b : Nat) (w : World) (h : (p0 b).In w) :
    Calls Try.prog 16 #[.agg #[.slice (some ⟨b, 0, none⟩) 2 2, .slice (some ⟨b + 1, 0, none⟩) 2 2, .slice none 0 0, .slice (some ⟨b + 1 + 1, 0, none⟩) 2 2, .slice none 0 0, .slice none 0 0, .slice none 0 0, .slice none 0 0, .slice none 0 0, .slice (some ⟨b + 1 + 1 + 1 + 1, 0, none⟩) 1 1, .slice none 0 0]] w fun e w' => ∃ g : G, e = .returned g.val ∧ g.In w' ∧ Comp d0 g ∧ Below w.heap.size w w' :=
  compile_comp (p0 b) w h d0_ok (by show 2 ≤ 64; decide) (by show 2 ≤ 64; decide) (by show 2 ≤ 16; decide)

theorem decide0 (g : G) (hc : Comp d0 g) (w : World) (h : g.In w) (s o a : ByteArray) (q : Bool) (hq : d0.allowB ⟨s, o, a⟩ = q) (n0 n1 n2 n3 n4 n5 : Nat) (e0 : n0 = g.la.length) (e1 : n1 = g.ls.length) (e2 : n2 = g.lo.length) (e3 : n3 = g.of.length) (e4 : n4 = g.on.length) (e5 : n5 = g.ms.length) :
    Calls Try.prog 10 #[.agg #[.slice g.A0 n0 g.c0, .slice g.A1 n1 g.c1, .slice g.A2 n2 g.c2, .slice g.A3 n3 g.c3, .slice g.A4 n4 g.c4, .slice g.A5 n5 g.c5], .agg #[.string s, .string o, .string a]] w fun e w' => e = .returned (.bool q) ∧ Below w.heap.size w w' := by
  subst e0 e1 e2 e3 e4 e5
  exact decide_comp d0 (by decide) (by decide) (by decide) g hc w h ⟨s, o, a⟩ q hq

set_option maxHeartbeats 4000000 in
set_option maxRecDepth 100000 in
theorem alive_calls (w : World) : Calls Try.prog 22 #[] w fun e w' => e = .returned (.bool true) ∧ Below w.heap.size w w' := by
  go_enter Try.func22, Try.ntmps22
  go_upto_region 2 with fail
  have hsix := six w (.cells #[.string ⟨#[114, 101, 97, 100]⟩, .string ⟨#[111, 112, 101, 110]⟩] 9) (.cells #[.string ⟨#[97, 110, 110]⟩, .float .f64 4607182418800017408, .string ⟨#[98, 111, 98]⟩, .float .f64 4607182418800017408] 54) (.cells #[.string ⟨#[100, 111, 111, 114, 49]⟩, .string ⟨#[100, 111, 111, 114, 50]⟩] 9) (.cells #[.string ⟨#[111, 112, 101, 110]⟩] 9) (.cells #[.bool false, .string ⟨#[98, 111, 98]⟩, .string ⟨#[100, 111, 111, 114, 50]⟩, .slice (some ⟨w.heap.size + 1 + 1 + 1, 0, none⟩) 1 1, .int .i8 0, .float .f64 0] 78) (.cells #[.slice (some ⟨w.heap.size, 0, none⟩) 2 2, .slice (some ⟨w.heap.size + 1, 0, none⟩) 2 2, .slice none 0 0, .slice (some ⟨w.heap.size + 1 + 1, 0, none⟩) 2 2, .slice none 0 0, .slice none 0 0, .slice none 0 0, .slice none 0 0, .slice none 0 0, .slice (some ⟨w.heap.size + 1 + 1 + 1 + 1, 0, none⟩) 1 1, .slice none 0 0] 39)
  obtain ⟨W, hW⟩ : ∃ W, W = ((((((w.alloc (.cells #[.string ⟨#[114, 101, 97, 100]⟩, .string ⟨#[111, 112, 101, 110]⟩] 9)).alloc (.cells #[.string ⟨#[97, 110, 110]⟩, .float .f64 4607182418800017408, .string ⟨#[98, 111, 98]⟩, .float .f64 4607182418800017408] 54)).alloc (.cells #[.string ⟨#[100, 111, 111, 114, 49]⟩, .string ⟨#[100, 111, 111, 114, 50]⟩] 9)).alloc (.cells #[.string ⟨#[111, 112, 101, 110]⟩] 9)).alloc (.cells #[.bool false, .string ⟨#[98, 111, 98]⟩, .string ⟨#[100, 111, 111, 114, 50]⟩, .slice (some ⟨w.heap.size + 1 + 1 + 1, 0, none⟩) 1 1, .int .i8 0, .float .f64 0] 78)).alloc (.cells #[.slice (some ⟨w.heap.size, 0, none⟩) 2 2, .slice (some ⟨w.heap.size + 1, 0, none⟩) 2 2, .slice none 0 0, .slice (some ⟨w.heap.size + 1 + 1, 0, none⟩) 2 2, .slice none 0 0, .slice none 0 0, .slice none 0 0, .slice none 0 0, .slice none 0 0, .slice (some ⟨w.heap.size + 1 + 1 + 1 + 1, 0, none⟩) 1 1, .slice none 0 0] 39)) := ⟨_, rfl⟩
  rw [← hW] at hsix ⊢
  clear hW
  obtain ⟨b0, hb0⟩ : ∃ b0, b0 = w.heap.size := ⟨_, rfl⟩
  obtain ⟨h0, h1, h2, h3, h4, h5, hb⟩ := hsix
  have hp := p0_in (W := W) (b := w.heap.size) h0 h1 h2 h3 h4
  have HP := Aside0.mk hp
  have H5 := Aside0.mk (show Stays W (w.heap.size + 1 + 1 + 1 + 1 + 1) #[.slice (some ⟨w.heap.size, 0, none⟩) 2 2, .slice (some ⟨w.heap.size + 1, 0, none⟩) 2 2, .slice none 0 0, .slice (some ⟨w.heap.size + 1 + 1, 0, none⟩) 2 2, .slice none 0 0, .slice none 0 0, .slice none 0 0, .slice none 0 0, .slice none 0 0, .slice (some ⟨w.heap.size + 1 + 1 + 1 + 1, 0, none⟩) 1 1, .slice none 0 0] 39 from h5)
  have HB := Aside0.mk hb
  clear h0 h1 h2 h3 h4 h5 hb hp hb0 b0
  go_upto_region 3 with (first | ((with_reducible refine gate_dst (N := 12) rfl ?_); refine wpList_load_blk rfl 39 (.tmp 1) rfl (w.heap.size + 1 + 1 + 1 + 1 + 1) ?hx #[.slice (some ⟨w.heap.size, 0, none⟩) 2 2, .slice (some ⟨w.heap.size + 1, 0, none⟩) 2 2, .slice none 0 0, .slice (some ⟨w.heap.size + 1 + 1, 0, none⟩) 2 2, .slice none 0 0, .slice none 0 0, .slice none 0 0, .slice none 0 0, .slice none 0 0, .slice (some ⟨w.heap.size + 1 + 1 + 1 + 1, 0, none⟩) 1 1, .slice none 0 0] 39 H5.out _ Try.underlying39 rfl i39 ?_; (case hx => rfl)) | (go_at_call 16; (refine (compile0 w.heap.size _ HP.out).mono ?_); rintro e w2 ⟨g, rfl, hg, hc, hb2⟩; have HG := Aside0.mk hg; have HC := Aside0.mk hc; have HB2 := Aside0.mk (below_then HB.out HB.out.size hb2); clear hg hc hb2) | ((with_reducible refine gate_dst (N := 2) rfl ?_); refine wpList_alloc_store rfl rfl 26 2 (.tmp 13) rfl rfl rfl #[.slice none 0 0, .slice none 0 0, .slice none 0 0, .slice none 0 0, .slice none 0 0, .slice none 0 0] (gC g) _ (z26 _) rfl i26 rfl (by simp [Value.oneCell']) ?hy ?hp ?_; (case hy => rfl); (case hp => rfl)))
  (try simp only [Act.put])
  have hS0 := heap_alloc_new w2 (.cells (gC g) 26)
  have hb3 := below_alloc (Below.refl _ w2) (.cells (gC g) 26)
  have hg3 := HG.out.below hb3
  have hB3 := below_then HB2.out HB2.out.size hb3
  obtain ⟨W3, hW3⟩ : ∃ W3, W3 = w2.alloc (.cells (gC g) 26) := ⟨_, rfl⟩
  obtain ⟨g2, hg2⟩ : ∃ g2, g2 = w2.heap.size := ⟨_, rfl⟩
  rw [← hW3] at hS0 hg3 hB3 ⊢
  rw [← hg2] at hS0 ⊢
  clear hW3 hg2 hb3 HG
  have hS : Stays W3 g2 (gC g) 26 := hS0
  clear hS0
  have hms : g.ms = [[0, 0], [0, 2]] := HC.out.ms.trans masks0
  have hm5 := hg3.h5
  rw [hms] at hm5
  obtain ⟨ad, Ar, cr, eA, hx1, hl1, hC1⟩ := PG.at_L3 hm5 1 (by decide) (by decide)
  have hrd : PG.rd_L3 [[0, 0], [0, 2]] 1 = [0, 2] := rfl
  rw [hrd] at hx1 hl1 hC1
  obtain ⟨adr, eR, hx2⟩ := Kd.at_int hC1 1 (by decide) (by decide)
  have hrd2 : rd [0, 2] 1 = 2 := rfl
  rw [hrd2] at hx2
  subst eR
  simp only [List.length_cons, List.length_nil, Nat.zero_add, Nat.reduceAdd] at hx1
  have t1 : (1 : Int).toNat = 1 := rfl
  rw [t1] at hx1 hx2
  have ea1 : ad.add 1 = ⟨ad.block, ad.off + 1, none⟩ := by simp [Addr.add]
  have ea2 : adr.add 1 = ⟨adr.block, adr.off + 1, none⟩ := by simp [Addr.add]
  rw [ea1] at hx1
  rw [ea2] at hx2
  clear ea1 ea2
  obtain ⟨n0, hn0⟩ : ∃ n, n = g.la.length := ⟨_, rfl⟩
  obtain ⟨n1, hn1⟩ : ∃ n, n = g.ls.length := ⟨_, rfl⟩
  obtain ⟨n2, hn2⟩ : ∃ n, n = g.lo.length := ⟨_, rfl⟩
  obtain ⟨n3, hn3⟩ : ∃ n, n = g.of.length := ⟨_, rfl⟩
  obtain ⟨n4, hn4⟩ : ∃ n, n = g.on.length := ⟨_, rfl⟩
  have hn5 : 2 = g.ms.length := by rw [hms]; rfl
  have x0 := hS.cell 0
  have x1 := hS.cell 1
  have x2 := hS.cell 2
  have x3 := hS.cell 3
  have x4 := hS.cell 4
  have x5 := hS.cell 5
  simp only [gC, List.getElem?_toArray, List.getElem?_cons_zero, List.getElem?_cons_succ, ← hn0, ← hn1, ← hn2, ← hn3, ← hn4, ← hn5, eA] at x0 x1 x2 x3 x4 x5
  have HS := Aside0.mk hS
  have HG3 := Aside0.mk hg3
  have HB3 := Aside0.mk hB3
  have N0 := Aside0.mk hn0
  have N1 := Aside0.mk hn1
  have N2 := Aside0.mk hn2
  have N3 := Aside0.mk hn3
  have N4 := Aside0.mk hn4
  have N5 := Aside0.mk hn5
  have EA := Aside0.mk eA
  have QY := Aside0.mk ((allow0 ⟨bBob, bD2, bOpen⟩).2 rfl)
  have QN := Aside0.mk (allow0_no ⟨bAnn, bD2, bOpen⟩ (by intro e; injection e with e0 _ _; exact absurd e0 (by decide)))
  clear hS hg3 hB3 hn0 hn1 hn2 hn3 hn4 hn5 eA hms hm5 hl1 hC1 hrd hrd2 t1
  go_wp2_with (first | (go_at_call 10; ((with_reducible refine (decide0 g HC.out _ HG3.out bBob bD2 bOpen true QY.out n0 n1 n2 n3 n4 2 N0.out N1.out N2.out N3.out N4.out N5.out).mono ?_)); rintro e w4 ⟨rfl, hb⟩; have y0 := pw_cell_below hb x0; have y1 := pw_cell_below hb x1; have y2 := pw_cell_below hb x2; have y3 := pw_cell_below hb x3; have y4 := pw_cell_below hb x4; have y5 := pw_cell_below hb x5; have HB4 := Aside0.mk (below_then HB3.out HB3.out.size hb); have HG4 := Aside0.mk (HG3.out.below hb); clear hb x0 x1 x2 x3 x4 x5 hx1 hx2) | (go_at_call 10; rw [EA.out.symm]; ((with_reducible refine (decide0 g HC.out _ HG3.out bBob bD2 bOpen true QY.out n0 n1 n2 n3 n4 2 N0.out N1.out N2.out N3.out N4.out N5.out).mono ?_)); rintro e w4 ⟨rfl, hb⟩; have y0 := pw_cell_below hb x0; have y1 := pw_cell_below hb x1; have y2 := pw_cell_below hb x2; have y3 := pw_cell_below hb x3; have y4 := pw_cell_below hb x4; have y5 := pw_cell_below hb x5; have HB4 := Aside0.mk (below_then HB3.out HB3.out.size hb); have HG4 := Aside0.mk (HG3.out.below hb); clear hb x0 x1 x2 x3 x4 x5 hx1 hx2) | (go_at_call 10; rw [EA.out.symm]; ((with_reducible refine (decide0 g HC.out _ HG4.out bAnn bD2 bOpen false QN.out n0 n1 n2 n3 n4 2 N0.out N1.out N2.out N3.out N4.out N5.out).mono ?_)); rintro e w5 ⟨rfl, hb⟩; have HB5 := Aside0.mk (below_then HB4.out HB4.out.size hb); clear hb))
  go_ret
  exact ⟨rfl, HB5.out⟩
end Go.Proofs.Ythaiodklfoegiaa.CAlive

namespace Go.Proofs.Ythaiodklfoegiaa.PG
open Go.Proofs.YthaiodklfoegiaaF
attribute [local go_sem high] run_feq run_fne run_flt_lt run_flt_le run_flt_gt run_flt_ge
open Go.RowKit Go.Proofs.YthaiodklfoegiaaW.PrintWords Go.Proofs.YthaiodklfoegiaaW.PrintLast Go.Proofs.YthaiodklfoegiaaW.PrintMore
attribute [local go_sem] max2_int min2_int max_two min_two max_three min_three max_four min_four   -- for this text's walks alone
set_option linter.unusedVariables false
set_option linter.unusedSimpArgs false

/-! ### gatehouselaw11_fits: function 23 -/
def gatehouselaw11_fits.f (l0_0 : List ByteArray) (l0_1 : List (S54)) (l0_2 : List ByteArray) (l0_3 : List ByteArray) (l0_4 : List ByteArray) (l0_5 : List (S108)) (l0_6 : List (S108)) (l0_7 : List (S108)) (l0_8 : List (S108)) (l0_9 : List (S78)) (l0_10 : List (S28)) : Option (Bool) := if (l0_0.length : Int) ≤ 16 then (if (l0_1.length : Int) ≤ 64 then (some (decide ((l0_3.length : Int) ≤ 64))) else (some false)) else (some false)
set_option maxHeartbeats 8000000 in
set_option maxRecDepth 100000 in
theorem gatehouselaw11_fits.calls (A0_0 : Option Addr) (c0_0 : Nat) (l0_0 : List ByteArray) (A0_1 : Option Addr) (c0_1 : Nat) (l0_1 : List (S54)) (A0_2 : Option Addr) (c0_2 : Nat) (l0_2 : List ByteArray) (A0_3 : Option Addr) (c0_3 : Nat) (l0_3 : List ByteArray) (A0_4 : Option Addr) (c0_4 : Nat) (l0_4 : List ByteArray) (A0_5 : Option Addr) (c0_5 : Nat) (l0_5 : List (S108)) (A0_6 : Option Addr) (c0_6 : Nat) (l0_6 : List (S108)) (A0_7 : Option Addr) (c0_7 : Nat) (l0_7 : List (S108)) (A0_8 : Option Addr) (c0_8 : Nat) (l0_8 : List (S108)) (A0_9 : Option Addr) (c0_9 : Nat) (l0_9 : List (S78)) (A0_10 : Option Addr) (c0_10 : Nat) (l0_10 : List (S28)) (r : Bool) (w : World) (hr0_0 : Kd.C Kd.string w A0_0 l0_0.length l0_0) (hc0_0 : l0_0.length ≤ c0_0) (hr0_1 : Kd.C k54 w A0_1 l0_1.length l0_1) (hc0_1 : l0_1.length ≤ c0_1) (hr0_2 : Kd.C Kd.string w A0_2 l0_2.length l0_2) (hc0_2 : l0_2.length ≤ c0_2) (hr0_3 : Kd.C Kd.string w A0_3 l0_3.length l0_3) (hc0_3 : l0_3.length ≤ c0_3) (hr0_4 : Kd.C Kd.string w A0_4 l0_4.length l0_4) (hc0_4 : l0_4.length ≤ c0_4) (hr0_5 : Kd.C k108 w A0_5 l0_5.length l0_5) (hc0_5 : l0_5.length ≤ c0_5) (hr0_6 : Kd.C k108 w A0_6 l0_6.length l0_6) (hc0_6 : l0_6.length ≤ c0_6) (hr0_7 : Kd.C k108 w A0_7 l0_7.length l0_7) (hc0_7 : l0_7.length ≤ c0_7) (hr0_8 : Kd.C k108 w A0_8 l0_8.length l0_8) (hc0_8 : l0_8.length ≤ c0_8) (hr0_9 : Kd.C k78 w A0_9 l0_9.length l0_9) (hc0_9 : l0_9.length ≤ c0_9) (hr0_10 : Kd.C k28 w A0_10 l0_10.length l0_10) (hc0_10 : l0_10.length ≤ c0_10) (h : gatehouselaw11_fits.f l0_0 l0_1 l0_2 l0_3 l0_4 l0_5 l0_6 l0_7 l0_8 l0_9 l0_10 = some r) :
    Calls Try.prog 23 #[.agg #[.slice A0_0 l0_0.length c0_0, .slice A0_1 l0_1.length c0_1, .slice A0_2 l0_2.length c0_2, .slice A0_3 l0_3.length c0_3, .slice A0_4 l0_4.length c0_4, .slice A0_5 l0_5.length c0_5, .slice A0_6 l0_6.length c0_6, .slice A0_7 l0_7.length c0_7, .slice A0_8 l0_8.length c0_8, .slice A0_9 l0_9.length c0_9, .slice A0_10 l0_10.length c0_10]] w fun e w' => e = .returned (.bool r) ∧ Below w.heap.size w w' := by
  have hu39 := Try.underlying39
  have HR0_0 := Aside0.mk hr0_0
  have HC0_0 := Aside0.mk hc0_0
  clear hr0_0 hc0_0
  have HR0_1 := Aside0.mk hr0_1
  have HC0_1 := Aside0.mk hc0_1
  clear hr0_1 hc0_1
  have HR0_2 := Aside0.mk hr0_2
  have HC0_2 := Aside0.mk hc0_2
  clear hr0_2 hc0_2
  have HR0_3 := Aside0.mk hr0_3
  have HC0_3 := Aside0.mk hc0_3
  clear hr0_3 hc0_3
  have HR0_4 := Aside0.mk hr0_4
  have HC0_4 := Aside0.mk hc0_4
  clear hr0_4 hc0_4
  have HR0_5 := Aside0.mk hr0_5
  have HC0_5 := Aside0.mk hc0_5
  clear hr0_5 hc0_5
  have HR0_6 := Aside0.mk hr0_6
  have HC0_6 := Aside0.mk hc0_6
  clear hr0_6 hc0_6
  have HR0_7 := Aside0.mk hr0_7
  have HC0_7 := Aside0.mk hc0_7
  clear hr0_7 hc0_7
  have HR0_8 := Aside0.mk hr0_8
  have HC0_8 := Aside0.mk hc0_8
  clear hr0_8 hc0_8
  have HR0_9 := Aside0.mk hr0_9
  have HC0_9 := Aside0.mk hc0_9
  clear hr0_9 hc0_9
  have HR0_10 := Aside0.mk hr0_10
  have HC0_10 := Aside0.mk hc0_10
  clear hr0_10 hc0_10
  have HB := Aside0.mk (Below.refl w.heap.size w)
  have H : (if (l0_0.length : Int) ≤ 16 then (if (l0_1.length : Int) ≤ 64 then (some (decide ((l0_3.length : Int) ≤ 64))) else (some false)) else (some false)) = some r := h
  clear h
  by_cases c2 : (l0_0.length : Int) ≤ 16
  · rw [if_pos c2] at H
    have c2b0 : decide ((l0_0.length : Int) ≤ 16) = true := decide_eq_true c2
    have c2b1 : decide (l0_0.length ≤ 16) = true := decide_eq_true (by omega)
    clear c2
    by_cases c3 : (l0_1.length : Int) ≤ 64
    · rw [if_pos c3] at H
      have c3b0 : decide ((l0_1.length : Int) ≤ 64) = true := decide_eq_true c3
      have c3b1 : decide (l0_1.length ≤ 64) = true := decide_eq_true (by omega)
      clear c3
      obtain rfl := Option.some.inj H
      go_enter Try.func23, Try.ntmps23
      go_wp2_with (first | ((with_reducible refine gate_dst (N := 1) rfl ?_); (try (refine gate_guard (by rfl) ?_; dsimp only)); refine box_event ?hg (N := 1) ?hd (cs := #[.slice A0_0 l0_0.length c0_0, .slice A0_1 l0_1.length c0_1, .slice A0_2 l0_2.length c0_2, .slice A0_3 l0_3.length c0_3, .slice A0_4 l0_4.length c0_4, .slice A0_5 l0_5.length c0_5, .slice A0_6 l0_6.length c0_6, .slice A0_7 l0_7.length c0_7, .slice A0_8 l0_8.length c0_8, .slice A0_9 l0_9.length c0_9, .slice A0_10 l0_10.length c0_10]) (t := 39) ?hr ?_; (case hd => rfl); (case hg => rfl); (case hr => first | (go_simp; done) | (go_simp; rfl)); intro gb260 hg w4 hbox hb; have n0_ := Aside0.mk (below_step (by repeat (first | (with_reducible first | exact HB.out | apply below_alloc | apply pw_below_drewN | apply below_drew1) | exact HB.out)) hb); have n1_ := Aside0.mk (hbox); have n2_ := Aside0.mk ((by rw [hg]; exact (below_size (by repeat (first | (with_reducible first | exact HB.out | apply below_alloc | apply pw_below_drewN | apply below_drew1) | exact HB.out))) : w.heap.size ≤ gb260)); have n3_ := Aside0.mk ((by rw [hg]; exact (below_size (by repeat (first | (with_reducible first | exact HB.out | apply below_alloc | apply pw_below_drewN | apply below_drew1) | exact HB.out))) : w.heap.size ≤ gb260)); clear HB; have HB := n0_; have BK260 := n1_; have GW260 := n2_; have GE260 := n3_; clear n0_ n1_ n2_ n3_; clear hb hbox hg; have hcz5_0 : w4.cell? ⟨gb260, 0, none⟩ = some (.slice A0_0 l0_0.length c0_0) := (blk_cell BK260.out 0).trans rfl; have hcz5_1 : w4.cell? ⟨gb260, 1, none⟩ = some (.slice A0_1 l0_1.length c0_1) := (blk_cell BK260.out 1).trans rfl; have hcz5_2 : w4.cell? ⟨gb260, 2, none⟩ = some (.slice A0_2 l0_2.length c0_2) := (blk_cell BK260.out 2).trans rfl; have hcz5_3 : w4.cell? ⟨gb260, 3, none⟩ = some (.slice A0_3 l0_3.length c0_3) := (blk_cell BK260.out 3).trans rfl; have hcz5_4 : w4.cell? ⟨gb260, 4, none⟩ = some (.slice A0_4 l0_4.length c0_4) := (blk_cell BK260.out 4).trans rfl; have hcz5_5 : w4.cell? ⟨gb260, 5, none⟩ = some (.slice A0_5 l0_5.length c0_5) := (blk_cell BK260.out 5).trans rfl; have hcz5_6 : w4.cell? ⟨gb260, 6, none⟩ = some (.slice A0_6 l0_6.length c0_6) := (blk_cell BK260.out 6).trans rfl; have hcz5_7 : w4.cell? ⟨gb260, 7, none⟩ = some (.slice A0_7 l0_7.length c0_7) := (blk_cell BK260.out 7).trans rfl; have hcz5_8 : w4.cell? ⟨gb260, 8, none⟩ = some (.slice A0_8 l0_8.length c0_8) := (blk_cell BK260.out 8).trans rfl; have hcz5_9 : w4.cell? ⟨gb260, 9, none⟩ = some (.slice A0_9 l0_9.length c0_9) := (blk_cell BK260.out 9).trans rfl; have hcz5_10 : w4.cell? ⟨gb260, 10, none⟩ = some (.slice A0_10 l0_10.length c0_10) := (blk_cell BK260.out 10).trans rfl; have hfz5_0 := blk_frozen BK260.out 0; have hfz5_1 := blk_frozen BK260.out 1; have hfz5_2 := blk_frozen BK260.out 2; have hfz5_3 := blk_frozen BK260.out 3; have hfz5_4 := blk_frozen BK260.out 4; have hfz5_5 := blk_frozen BK260.out 5; have hfz5_6 := blk_frozen BK260.out 6; have hfz5_7 := blk_frozen BK260.out 7; have hfz5_8 := blk_frozen BK260.out 8; have hfz5_9 := blk_frozen BK260.out 9; have hfz5_10 := blk_frozen BK260.out 10))
      go_ret
      exact ⟨by first | rfl | (simp [errW_none, errW_some] <;> rfl) | (simp [*, errW_none, errW_some] <;> rfl), by repeat (first | (with_reducible first | exact HB.out | apply below_alloc | apply pw_below_drewN | apply below_drew1 | refine below_set ?_ GE260.out) | exact HB.out)⟩
    · rw [if_neg c3] at H
      have c3b0 : decide ((l0_1.length : Int) ≤ 64) = false := decide_eq_false c3
      have c3b1 : decide (l0_1.length ≤ 64) = false := decide_eq_false (by omega)
      clear c3
      obtain rfl := Option.some.inj H
      go_enter Try.func23, Try.ntmps23
      go_wp2_with (first | ((with_reducible refine gate_dst (N := 1) rfl ?_); (try (refine gate_guard (by rfl) ?_; dsimp only)); refine box_event ?hg (N := 1) ?hd (cs := #[.slice A0_0 l0_0.length c0_0, .slice A0_1 l0_1.length c0_1, .slice A0_2 l0_2.length c0_2, .slice A0_3 l0_3.length c0_3, .slice A0_4 l0_4.length c0_4, .slice A0_5 l0_5.length c0_5, .slice A0_6 l0_6.length c0_6, .slice A0_7 l0_7.length c0_7, .slice A0_8 l0_8.length c0_8, .slice A0_9 l0_9.length c0_9, .slice A0_10 l0_10.length c0_10]) (t := 39) ?hr ?_; (case hd => rfl); (case hg => rfl); (case hr => first | (go_simp; done) | (go_simp; rfl)); intro gb260 hg w6 hbox hb; have n0_ := Aside0.mk (below_step (by repeat (first | (with_reducible first | exact HB.out | apply below_alloc | apply pw_below_drewN | apply below_drew1) | exact HB.out)) hb); have n1_ := Aside0.mk (hbox); have n2_ := Aside0.mk ((by rw [hg]; exact (below_size (by repeat (first | (with_reducible first | exact HB.out | apply below_alloc | apply pw_below_drewN | apply below_drew1) | exact HB.out))) : w.heap.size ≤ gb260)); have n3_ := Aside0.mk ((by rw [hg]; exact (below_size (by repeat (first | (with_reducible first | exact HB.out | apply below_alloc | apply pw_below_drewN | apply below_drew1) | exact HB.out))) : w.heap.size ≤ gb260)); clear HB; have HB := n0_; have BK260 := n1_; have GW260 := n2_; have GE260 := n3_; clear n0_ n1_ n2_ n3_; clear hb hbox hg; have hcz7_0 : w6.cell? ⟨gb260, 0, none⟩ = some (.slice A0_0 l0_0.length c0_0) := (blk_cell BK260.out 0).trans rfl; have hcz7_1 : w6.cell? ⟨gb260, 1, none⟩ = some (.slice A0_1 l0_1.length c0_1) := (blk_cell BK260.out 1).trans rfl; have hcz7_2 : w6.cell? ⟨gb260, 2, none⟩ = some (.slice A0_2 l0_2.length c0_2) := (blk_cell BK260.out 2).trans rfl; have hcz7_3 : w6.cell? ⟨gb260, 3, none⟩ = some (.slice A0_3 l0_3.length c0_3) := (blk_cell BK260.out 3).trans rfl; have hcz7_4 : w6.cell? ⟨gb260, 4, none⟩ = some (.slice A0_4 l0_4.length c0_4) := (blk_cell BK260.out 4).trans rfl; have hcz7_5 : w6.cell? ⟨gb260, 5, none⟩ = some (.slice A0_5 l0_5.length c0_5) := (blk_cell BK260.out 5).trans rfl; have hcz7_6 : w6.cell? ⟨gb260, 6, none⟩ = some (.slice A0_6 l0_6.length c0_6) := (blk_cell BK260.out 6).trans rfl; have hcz7_7 : w6.cell? ⟨gb260, 7, none⟩ = some (.slice A0_7 l0_7.length c0_7) := (blk_cell BK260.out 7).trans rfl; have hcz7_8 : w6.cell? ⟨gb260, 8, none⟩ = some (.slice A0_8 l0_8.length c0_8) := (blk_cell BK260.out 8).trans rfl; have hcz7_9 : w6.cell? ⟨gb260, 9, none⟩ = some (.slice A0_9 l0_9.length c0_9) := (blk_cell BK260.out 9).trans rfl; have hcz7_10 : w6.cell? ⟨gb260, 10, none⟩ = some (.slice A0_10 l0_10.length c0_10) := (blk_cell BK260.out 10).trans rfl; have hfz7_0 := blk_frozen BK260.out 0; have hfz7_1 := blk_frozen BK260.out 1; have hfz7_2 := blk_frozen BK260.out 2; have hfz7_3 := blk_frozen BK260.out 3; have hfz7_4 := blk_frozen BK260.out 4; have hfz7_5 := blk_frozen BK260.out 5; have hfz7_6 := blk_frozen BK260.out 6; have hfz7_7 := blk_frozen BK260.out 7; have hfz7_8 := blk_frozen BK260.out 8; have hfz7_9 := blk_frozen BK260.out 9; have hfz7_10 := blk_frozen BK260.out 10))
      go_ret
      exact ⟨by first | rfl | (simp [errW_none, errW_some] <;> rfl) | (simp [*, errW_none, errW_some] <;> rfl), by repeat (first | (with_reducible first | exact HB.out | apply below_alloc | apply pw_below_drewN | apply below_drew1 | refine below_set ?_ GE260.out) | exact HB.out)⟩
  · rw [if_neg c2] at H
    have c2b0 : decide ((l0_0.length : Int) ≤ 16) = false := decide_eq_false c2
    have c2b1 : decide (l0_0.length ≤ 16) = false := decide_eq_false (by omega)
    clear c2
    obtain rfl := Option.some.inj H
    go_enter Try.func23, Try.ntmps23
    go_wp2_with (first | ((with_reducible refine gate_dst (N := 1) rfl ?_); (try (refine gate_guard (by rfl) ?_; dsimp only)); refine box_event ?hg (N := 1) ?hd (cs := #[.slice A0_0 l0_0.length c0_0, .slice A0_1 l0_1.length c0_1, .slice A0_2 l0_2.length c0_2, .slice A0_3 l0_3.length c0_3, .slice A0_4 l0_4.length c0_4, .slice A0_5 l0_5.length c0_5, .slice A0_6 l0_6.length c0_6, .slice A0_7 l0_7.length c0_7, .slice A0_8 l0_8.length c0_8, .slice A0_9 l0_9.length c0_9, .slice A0_10 l0_10.length c0_10]) (t := 39) ?hr ?_; (case hd => rfl); (case hg => rfl); (case hr => first | (go_simp; done) | (go_simp; rfl)); intro gb260 hg w8 hbox hb; have n0_ := Aside0.mk (below_step (by repeat (first | (with_reducible first | exact HB.out | apply below_alloc | apply pw_below_drewN | apply below_drew1) | exact HB.out)) hb); have n1_ := Aside0.mk (hbox); have n2_ := Aside0.mk ((by rw [hg]; exact (below_size (by repeat (first | (with_reducible first | exact HB.out | apply below_alloc | apply pw_below_drewN | apply below_drew1) | exact HB.out))) : w.heap.size ≤ gb260)); have n3_ := Aside0.mk ((by rw [hg]; exact (below_size (by repeat (first | (with_reducible first | exact HB.out | apply below_alloc | apply pw_below_drewN | apply below_drew1) | exact HB.out))) : w.heap.size ≤ gb260)); clear HB; have HB := n0_; have BK260 := n1_; have GW260 := n2_; have GE260 := n3_; clear n0_ n1_ n2_ n3_; clear hb hbox hg; have hcz9_0 : w8.cell? ⟨gb260, 0, none⟩ = some (.slice A0_0 l0_0.length c0_0) := (blk_cell BK260.out 0).trans rfl; have hcz9_1 : w8.cell? ⟨gb260, 1, none⟩ = some (.slice A0_1 l0_1.length c0_1) := (blk_cell BK260.out 1).trans rfl; have hcz9_2 : w8.cell? ⟨gb260, 2, none⟩ = some (.slice A0_2 l0_2.length c0_2) := (blk_cell BK260.out 2).trans rfl; have hcz9_3 : w8.cell? ⟨gb260, 3, none⟩ = some (.slice A0_3 l0_3.length c0_3) := (blk_cell BK260.out 3).trans rfl; have hcz9_4 : w8.cell? ⟨gb260, 4, none⟩ = some (.slice A0_4 l0_4.length c0_4) := (blk_cell BK260.out 4).trans rfl; have hcz9_5 : w8.cell? ⟨gb260, 5, none⟩ = some (.slice A0_5 l0_5.length c0_5) := (blk_cell BK260.out 5).trans rfl; have hcz9_6 : w8.cell? ⟨gb260, 6, none⟩ = some (.slice A0_6 l0_6.length c0_6) := (blk_cell BK260.out 6).trans rfl; have hcz9_7 : w8.cell? ⟨gb260, 7, none⟩ = some (.slice A0_7 l0_7.length c0_7) := (blk_cell BK260.out 7).trans rfl; have hcz9_8 : w8.cell? ⟨gb260, 8, none⟩ = some (.slice A0_8 l0_8.length c0_8) := (blk_cell BK260.out 8).trans rfl; have hcz9_9 : w8.cell? ⟨gb260, 9, none⟩ = some (.slice A0_9 l0_9.length c0_9) := (blk_cell BK260.out 9).trans rfl; have hcz9_10 : w8.cell? ⟨gb260, 10, none⟩ = some (.slice A0_10 l0_10.length c0_10) := (blk_cell BK260.out 10).trans rfl; have hfz9_0 := blk_frozen BK260.out 0; have hfz9_1 := blk_frozen BK260.out 1; have hfz9_2 := blk_frozen BK260.out 2; have hfz9_3 := blk_frozen BK260.out 3; have hfz9_4 := blk_frozen BK260.out 4; have hfz9_5 := blk_frozen BK260.out 5; have hfz9_6 := blk_frozen BK260.out 6; have hfz9_7 := blk_frozen BK260.out 7; have hfz9_8 := blk_frozen BK260.out 8; have hfz9_9 := blk_frozen BK260.out 9; have hfz9_10 := blk_frozen BK260.out 10))
    go_ret
    exact ⟨by first | rfl | (simp [errW_none, errW_some] <;> rfl) | (simp [*, errW_none, errW_some] <;> rfl), by repeat (first | (with_reducible first | exact HB.out | apply below_alloc | apply pw_below_drewN | apply below_drew1 | refine below_set ?_ GE260.out) | exact HB.out)⟩

end Go.Proofs.Ythaiodklfoegiaa.PG

/- gatehouselaw11.GraphSays, walked. -/
namespace Go.Proofs.Ythaiodklfoegiaa.CLSays
open Go.RowKit Go.Proofs.YthaiodklfoegiaaW.PrintWords Go.Proofs.YthaiodklfoegiaaW.PrintLast Go.Proofs.YthaiodklfoegiaaW.PrintMore Go.Proofs.Ythaiodklfoegiaa.BMap Go.Proofs.Ythaiodklfoegiaa.BRow Go.Proofs.Ythaiodklfoegiaa.CPure Go.Proofs.Ythaiodklfoegiaa.CSame Go.Proofs.Ythaiodklfoegiaa.CCompile Go.Proofs.Ythaiodklfoegiaa.CSays Go.Proofs.Ythaiodklfoegiaa.CAlive Go.Proofs.Ythaiodklfoegiaa.GValid Go.Proofs.Ythaiodklfoegiaa.MLines Go.Proofs.Ythaiodklfoegiaa.MSide Go.Proofs.Ythaiodklfoegiaa.MPol Go.Maps
open Go.Proofs.Ythaiodklfoegiaa Go.Proofs.Ythaiodklfoegiaa.PG

/-- Within the limits. -/
def fitsP (d : PolD) : Prop := d.acts.length ≤ 16 ∧ d.subs.length ≤ 64 ∧ d.objs.length ≤ 64
theorem fits_go (p : Pol) (w : World) (hp : p.In w) (q : Bool) (hq : q = true ↔ fitsP p.d) : Calls Try.prog 23 #[.agg p.cells] w fun e w' => e = .returned (.bool q) ∧ Below w.heap.size w w' := by
  refine gatehouselaw11_fits.calls p.A0 p.c0 p.d.acts p.A1 p.c1 p.d.subs p.A2 p.c2 p.d.roles p.A3 p.c3 p.d.objs p.A4 p.c4 p.d.grps p.A5 p.c5 p.d.mem p.A6 p.c6 p.d.inh p.A7 p.c7 p.d.par p.A8 p.c8 p.d.wit p.A9 p.c9 p.d.rules p.A10 p.c10 p.d.exc q w hp.h0 hp.l0 hp.h1 hp.l1 hp.h2 hp.l2 hp.h3 hp.l3 hp.h4 hp.l4 hp.h5 hp.l5 hp.h6 hp.l6 hp.h7 hp.l7 hp.h8 hp.l8 hp.h9 hp.l9 hp.h10 hp.l10 ?_
  unfold gatehouselaw11_fits.f
  unfold fitsP at hq
  by_cases h0 : p.d.acts.length ≤ 16
  · by_cases h1 : p.d.subs.length ≤ 64
    · rw [if_pos (by omega), if_pos (by omega)]
      congr 1
      rw [Bool.eq_iff_iff, hq, decide_eq_true_iff]
      omega
    · rw [if_pos (by omega), if_neg (by omega)]
      congr 1
      rw [Bool.eq_iff_iff, hq]
      simp; omega
  · rw [if_neg (by omega)]
    congr 1
    rw [Bool.eq_iff_iff, hq]
    simp; omega
theorem compile_go (p : Pol) (w : World) (hp : p.In w) (hd : p.d.Ok) (hf : fitsP p.d) : Calls Try.prog 16 #[.agg p.cells] w fun e w' => ∃ g : G, e = .returned g.val ∧ g.In w' ∧ Comp p.d g ∧ Below w.heap.size w w' :=
  compile_comp p w hp hd hf.2.1 hf.2.2 hf.1

end Go.Proofs.Ythaiodklfoegiaa.CLSays

/- gatehouselaw11.spelled, walked. -/
namespace Go.Proofs.Ythaiodklfoegiaa.CSpell
open Go.RowKit Go.Proofs.YthaiodklfoegiaaW.PrintWords Go.Proofs.YthaiodklfoegiaaW.PrintLast Go.Proofs.YthaiodklfoegiaaW.PrintMore Go.Proofs.Ythaiodklfoegiaa.BMap Go.Proofs.Ythaiodklfoegiaa.BRow Go.Proofs.Ythaiodklfoegiaa.GDiffer Go.Proofs.Ythaiodklfoegiaa.CSame Go.Proofs.Ythaiodklfoegiaa.CCompile Go.Proofs.Ythaiodklfoegiaa.MLines Go.Proofs.Ythaiodklfoegiaa.MSide Go.Proofs.Ythaiodklfoegiaa.MPol Go.Maps
open Go.Proofs.Ythaiodklfoegiaa Go.Proofs.Ythaiodklfoegiaa.PG
open Go.Proofs.Ythaiodklfoegiaa.CTwin (Short twin_go)

abbrev qV (v0 v1 v2 v3 v4 v5 v6 v7 v8 v9 v10 : Value) : Array Value := #[v0, v1, v2, v3, v4, v5, v6, v7, v8, v9, v10]
abbrev nil : Value := .slice none 0 0
theorem z39 (w : World) : (zeroValue 39).run Try.prog w = .ok (.agg #[.slice none 0 0, .slice none 0 0, .slice none 0 0, .slice none 0 0, .slice none 0 0, .slice none 0 0, .slice none 0 0, .slice none 0 0, .slice none 0 0, .slice none 0 0, .slice none 0 0]) w := by kernel_rfl
theorem tyS : ∀ q, q ∈ 9 :: Kd.string.E → q ≠ 39 := by decide
theorem ty54 : ∀ q, q ∈ 54 :: k54.E → q ≠ 39 := by decide
/-- A twin in its variable, fields being written. -/
structure Tw (p : Pol) (w : World) (gv g3 : Nat) (W : World) (cs : Array Value) (v0 v1 v3 : Value) : Prop where
  box : Stays W w.heap.size p.cells 39
  res : Stays W gv #[.slice none 0 0, .slice none 0 0, .slice none 0 0, .slice none 0 0, .slice none 0 0, .slice none 0 0, .slice none 0 0, .slice none 0 0, .slice none 0 0, .slice none 0 0, .slice none 0 0] 39
  g : Stays W g3 cs 39
  r0 : Kd.R Kd.string 9 W w.heap.size (fun _ => True) v0 p.d.acts
  r1 : Kd.R k54 54 W w.heap.size (fun _ => True) v1 p.d.subs
  r3 : Kd.R Kd.string 9 W w.heap.size (fun _ => True) v3 p.d.objs
  below : Below w.heap.size w W
theorem Tw.move {p : Pol} {w W W1 : World} {gv g3 : Nat} {cs : Array Value} {v0 v1 v3 : Value} (h : Tw p w gv g3 W cs v0 v1 v3) (hb : Below W.heap.size W W1) : Tw p w gv g3 W1 cs v0 v1 v3 :=
  ⟨h.box.below hb, h.res.below hb, h.g.below hb, Kd.R_below h.r0 hb, Kd.R_below h.r1 hb, Kd.R_below h.r3 hb, below_then h.below h.below.size hb⟩
theorem Tw.set {p : Pol} {w W : World} {gv g3 : Nat} {cs : Array Value} {v0 v1 v3 : Value} (h : Tw p w gv g3 W cs v0 v1 v3) (n1 : w.heap.size < gv) (n2 : gv < g3) (j : Nat) (v : Value) : Tw p w gv g3 (W.setCell ⟨g3, j, none⟩ v) (cs.setIfInBounds j v) v0 v1 v3 :=
  ⟨stays_far h.box (show w.heap.size ≠ g3 by omega) v, stays_far h.res (show gv ≠ g3 by omega) v, stays_set h.g j v, R_set h.r0 h.g tyS j v, R_set h.r1 h.g ty54 j v, R_set h.r3 h.g tyS j v, below_set h.below (show w.heap.size ≤ g3 by omega)⟩

/-- A triple as a rule. -/
def ruleOf (t : S28) : S78 := ⟨false, t.f0, t.f1, [t.f2], 0, 0⟩
/-- A policy's names with a rule for each of some triples. -/
def spell (d : PolD) (L : List S28) : PolD := ⟨d.acts, d.subs, [], d.objs, [], [], [], [], [], L.map ruleOf, []⟩
theorem C_nil {α : Type} (dk : Kd α) (w : World) : Kd.C dk w none 0 [] := ⟨rfl, by decide, fun h => absurd h (by decide)⟩
theorem types78 : ∀ q, q ∈ 78 :: k78.E → q ≠ 39 := by decide
theorem types28 : ∀ q, q ∈ 28 :: k28.E → q ≠ 39 := by decide
/-- The rules, so far. -/
structure Sp (g3 : Nat) (W wr : World) (v0 v1 v3 vr : Value) (rs : List S78) : Prop where
  same : Same (S1 g3) W wr
  g : Stays wr g3 (qV v0 v1 nil v3 nil nil nil nil nil vr nil) 39
  rs : Kd.R k78 78 wr W.heap.size (fun _ => True) vr rs
theorem one_text (W : World) (s : ByteArray) : Kd.R Kd.string 9 (W.alloc (.cells #[.string s] 9)) W.heap.size (fun k => (Value.slice (some ⟨W.heap.size, 0, none⟩) 1 1).ownBlock = some k) (.slice (some ⟨W.heap.size, 0, none⟩) 1 1) [s] := by
  have h2 : (W.alloc (.cells #[.string s] 9)).ownsRow W.heap.size 9 1 (.slice (some ⟨W.heap.size, 0, none⟩) 1 1) ([s] : List ByteArray).length (encs Value.string [s]) := by
    have h := heap_alloc_new W (.cells #[.string s] 9)
    exact ⟨by simp [encs], Or.inr ⟨W.heap.size, 1, #[.string s], rfl, Nat.le_refl _, h, Nat.le_refl _, by decide, rfl, rfl⟩⟩
  exact Kd.R_of_own (h1 := fun _ => rfl) h2 (fun _ h => h)
namespace Sp
variable {g3 : Nat} {W wr w1 : World} {v0 v1 v3 vr v' : Value} {rs rs' : List S78}
theorem move (h : Sp g3 W wr v0 v1 v3 vr rs) (hb : Below wr.heap.size wr w1) : Sp g3 W w1 v0 v1 v3 vr rs := ⟨h.same.move hb, h.g.below hb, Kd.R_below h.rs hb⟩
theorem kept (h : Sp g3 W wr v0 v1 v3 vr rs) (hg : wr.grownBy w1 vr.ownBlock) : Stays w1 g3 (qV v0 v1 nil v3 nil nil nil nil nil vr nil) 39 := (hg.block _ (Array.getElem?_eq_some_iff.1 h.g).1 (Kd.R_ne h.rs h.g (by decide))).trans h.g
theorem app (h : Sp g3 W wr v0 v1 v3 vr rs) (hr : Kd.R k78 78 w1 W.heap.size (fun _ => True) v' rs') (hg : wr.grownBy w1 vr.ownBlock) : Sp g3 W (w1.setCell ⟨g3, 9, none⟩ v') v0 v1 v3 v' rs' where
  same := (h.same.grown hg (fun k hk => by
    obtain ⟨inner, ho⟩ := Kd.R_own h.rs
    exact .inr (own_base ho k hk))).set (.inl rfl) v'
  g := stays_set (h.kept hg) 9 v'
  rs := R_set hr (h.kept hg) types78 9 v'
end Sp
theorem off39 {α : Type} {dk : Kd α} {e base g3 : Nat} {ok : Nat → Prop} {w : World} {v : Value} {xs : List α} {cs : Array Value} (h : dk.R e w base ok v xs) (hg : Stays w g3 cs 39) (ht : ∀ q, q ∈ e :: dk.E → q ≠ 39) : dk.R e w base (fun k => ¬ S1 g3 k) v xs := Kd.R_mono (Kd.R_types h hg ht) (fun _ hk => hk.2)

set_option maxHeartbeats 8000000 in
set_option maxRecDepth 100000 in
theorem spelled_calls (p : Pol) (w : World) (hp : p.In w) (hd : p.d.Ok) (hk : Short p.d) (hs : p.d.subs.length ≤ 64) (ho : p.d.objs.length ≤ 64) (ha : p.d.acts.length ≤ 16) :
    Calls Try.prog 25 #[.agg p.cells] w fun e w' => ∃ (q : Pol) (L : List S28), e = .returned (.agg q.cells) ∧ q.In w' ∧ q.d = spell p.d L ∧ (∀ t, t ∈ L ↔ ((∃ y ∈ p.d.subs, y.f0 = t.f0) ∧ p.d.allowB t = true)) ∧ L.length ≤ 65536 ∧ Below w.heap.size w w' := by
  obtain ⟨d, A0, c0, A1, c1, A2, c2, A3, c3, A4, c4, A5, c5, A6, c6, A7, c7, A8, c8, A9, c9, A10, c10⟩ := p
  have HP := Aside0.mk hp
  have HD := Aside0.mk hd
  have HK := Aside0.mk hk
  have HLIM := Aside0.mk (And.intro hs (And.intro ho ha))
  clear hp hd hk hs ho ha
  have hst : Stays ((w.alloc (.cells #[.slice A0 d.acts.length c0, .slice A1 d.subs.length c1, .slice A2 d.roles.length c2, .slice A3 d.objs.length c3, .slice A4 d.grps.length c4, .slice A5 d.mem.length c5, .slice A6 d.inh.length c6, .slice A7 d.par.length c7, .slice A8 d.wit.length c8, .slice A9 d.rules.length c9, .slice A10 d.exc.length c10] 39)).alloc (.cells #[.slice none 0 0, .slice none 0 0, .slice none 0 0, .slice none 0 0, .slice none 0 0, .slice none 0 0, .slice none 0 0, .slice none 0 0, .slice none 0 0, .slice none 0 0, .slice none 0 0] 39)) w.heap.size #[.slice A0 d.acts.length c0, .slice A1 d.subs.length c1, .slice A2 d.roles.length c2, .slice A3 d.objs.length c3, .slice A4 d.grps.length c4, .slice A5 d.mem.length c5, .slice A6 d.inh.length c6, .slice A7 d.par.length c7, .slice A8 d.wit.length c8, .slice A9 d.rules.length c9, .slice A10 d.exc.length c10] 39 := Stays.below (heap_alloc_new w _) (below_alloc (Below.refl _ _) _)
  have hsv : Stays ((w.alloc (.cells #[.slice A0 d.acts.length c0, .slice A1 d.subs.length c1, .slice A2 d.roles.length c2, .slice A3 d.objs.length c3, .slice A4 d.grps.length c4, .slice A5 d.mem.length c5, .slice A6 d.inh.length c6, .slice A7 d.par.length c7, .slice A8 d.wit.length c8, .slice A9 d.rules.length c9, .slice A10 d.exc.length c10] 39)).alloc (.cells #[.slice none 0 0, .slice none 0 0, .slice none 0 0, .slice none 0 0, .slice none 0 0, .slice none 0 0, .slice none 0 0, .slice none 0 0, .slice none 0 0, .slice none 0 0, .slice none 0 0] 39)) (w.heap.size + 1) #[.slice none 0 0, .slice none 0 0, .slice none 0 0, .slice none 0 0, .slice none 0 0, .slice none 0 0, .slice none 0 0, .slice none 0 0, .slice none 0 0, .slice none 0 0, .slice none 0 0] 39 := by
    have h := heap_alloc_new (w.alloc (.cells #[.slice A0 d.acts.length c0, .slice A1 d.subs.length c1, .slice A2 d.roles.length c2, .slice A3 d.objs.length c3, .slice A4 d.grps.length c4, .slice A5 d.mem.length c5, .slice A6 d.inh.length c6, .slice A7 d.par.length c7, .slice A8 d.wit.length c8, .slice A9 d.rules.length c9, .slice A10 d.exc.length c10] 39)) (.cells #[.slice none 0 0, .slice none 0 0, .slice none 0 0, .slice none 0 0, .slice none 0 0, .slice none 0 0, .slice none 0 0, .slice none 0 0, .slice none 0 0, .slice none 0 0, .slice none 0 0] 39)
    rw [World.size_alloc] at h
    exact h
  have hb0 : Below w.heap.size w ((w.alloc (.cells #[.slice A0 d.acts.length c0, .slice A1 d.subs.length c1, .slice A2 d.roles.length c2, .slice A3 d.objs.length c3, .slice A4 d.grps.length c4, .slice A5 d.mem.length c5, .slice A6 d.inh.length c6, .slice A7 d.par.length c7, .slice A8 d.wit.length c8, .slice A9 d.rules.length c9, .slice A10 d.exc.length c10] 39)).alloc (.cells #[.slice none 0 0, .slice none 0 0, .slice none 0 0, .slice none 0 0, .slice none 0 0, .slice none 0 0, .slice none 0 0, .slice none 0 0, .slice none 0 0, .slice none 0 0, .slice none 0 0] 39)) := below_alloc (below_alloc (Below.refl _ _) _) _
  have hz := z39
  unfold Pol.cells
  go_enter Try.func25, Try.ntmps25
  go_upto_region 1 with fail
  clear hz
  obtain ⟨W0, hW0⟩ : ∃ W0, W0 = (w.alloc (.cells #[.slice A0 d.acts.length c0, .slice A1 d.subs.length c1, .slice A2 d.roles.length c2, .slice A3 d.objs.length c3, .slice A4 d.grps.length c4, .slice A5 d.mem.length c5, .slice A6 d.inh.length c6, .slice A7 d.par.length c7, .slice A8 d.wit.length c8, .slice A9 d.rules.length c9, .slice A10 d.exc.length c10] 39)).alloc (.cells #[.slice none 0 0, .slice none 0 0, .slice none 0 0, .slice none 0 0, .slice none 0 0, .slice none 0 0, .slice none 0 0, .slice none 0 0, .slice none 0 0, .slice none 0 0, .slice none 0 0] 39) := ⟨_, rfl⟩
  obtain ⟨gv, hgv⟩ : ∃ gv, gv = w.heap.size + 1 := ⟨_, rfl⟩
  rw [← hW0] at hst hsv hb0 ⊢
  rw [← hgv] at hsv ⊢
  have hlt : gv < W0.heap.size := by rw [hW0, World.size_alloc, World.size_alloc]; omega
  have HGV := Aside0.mk (show w.heap.size < gv by omega)
  have HGW := Aside0.mk hlt
  have HST := Aside0.mk hst
  have HSV := Aside0.mk hsv
  have HB := Aside0.mk hb0
  clear hst hsv hb0 hW0 hgv hlt
  go_upto_region 2 with (first | ((with_reducible refine gate_dst (N := 6) rfl ?_); refine wpList_load_blk rfl 39 (.tmp 1) rfl w.heap.size ?hx #[.slice A0 d.acts.length c0, .slice A1 d.subs.length c1, .slice A2 d.roles.length c2, .slice A3 d.objs.length c3, .slice A4 d.grps.length c4, .slice A5 d.mem.length c5, .slice A6 d.inh.length c6, .slice A7 d.par.length c7, .slice A8 d.wit.length c8, .slice A9 d.rules.length c9, .slice A10 d.exc.length c10] 39 HST.out _ Try.underlying39 rfl i39 ?_; (case hx => rfl)) | (go_at_call 58; (refine (twin_go (Pol.mk d A0 c0 A1 c1 A2 c2 A3 c3 A4 c4 A5 c5 A6 c6 A7 c7 A8 c8 A9 c9 A10 c10) _ (HP.out.below HB.out) HK.out).mono ?_); rintro e w2 ⟨v0, v1, v2, v3, v4, v5, v6, v7, v8, v9, v10, rfl, h0, h1, h3, hone, hb⟩; have HONE := Aside0.mk hone; have HR0 := Aside0.mk (Kd.R_lower h0 HB.out.size); have HR1 := Aside0.mk (Kd.R_lower h1 HB.out.size); have HR3 := Aside0.mk (Kd.R_lower h3 HB.out.size); have HB2 := Aside0.mk (below_then HB.out HB.out.size hb); have HST2 := Aside0.mk (HST.out.below hb); have HSV2 := Aside0.mk (HSV.out.below hb); have HSZ2 := Aside0.mk (Nat.lt_of_lt_of_le HGW.out hb.size); clear hb h0 h1 h3 hone) | ((with_reducible refine gate_dst (N := 3) rfl ?_); refine wpList_alloc_store rfl rfl 39 3 (.tmp 7) rfl rfl rfl #[.slice none 0 0, .slice none 0 0, .slice none 0 0, .slice none 0 0, .slice none 0 0, .slice none 0 0, .slice none 0 0, .slice none 0 0, .slice none 0 0, .slice none 0 0, .slice none 0 0] (qV v0 v1 v2 v3 v4 v5 v6 v7 v8 v9 v10) _ (z39 _) rfl i39 rfl (fun u hu => HONE.out u (by simpa using hu)) ?hy ?hp ?_; (case hy => rfl); (case hp => rfl)))
  (try simp only [Act.put])
  have hb3 := below_alloc (Below.refl _ w2) (.cells (qV v0 v1 v2 v3 v4 v5 v6 v7 v8 v9 v10) 39)
  have hT : Tw (Pol.mk d A0 c0 A1 c1 A2 c2 A3 c3 A4 c4 A5 c5 A6 c6 A7 c7 A8 c8 A9 c9 A10 c10) w gv w2.heap.size (w2.alloc (.cells (qV v0 v1 v2 v3 v4 v5 v6 v7 v8 v9 v10) 39)) (qV v0 v1 v2 v3 v4 v5 v6 v7 v8 v9 v10) v0 v1 v3 :=
    ⟨HST2.out.below hb3, HSV2.out.below hb3, heap_alloc_new w2 _, Kd.R_below HR0.out hb3, Kd.R_below HR1.out hb3, Kd.R_below HR3.out hb3, below_then HB2.out HB2.out.size hb3⟩
  obtain ⟨g3, hg3⟩ : ∃ g3, g3 = w2.heap.size := ⟨_, rfl⟩
  obtain ⟨W3, hW3⟩ : ∃ W3, W3 = w2.alloc (.cells (qV v0 v1 v2 v3 v4 v5 v6 v7 v8 v9 v10) 39) := ⟨_, rfl⟩
  have HG3 := Aside0.mk (show gv < g3 by rw [hg3]; exact HSZ2.out)
  rw [← hW3] at hT ⊢
  rw [← hg3] at hT ⊢
  have HT3 := Aside0.mk hT
  clear hb3 hT hg3 hW3 HB2 HST2 HSV2 HR0 HR1 HR3 HSZ2 HST HSV HB HGW
  have x3 := HT3.out.g.cell 2
  simp only [qV, List.getElem?_toArray, List.getElem?_cons_zero, List.getElem?_cons_succ] at x3
  have y3 : W3.frozen? ⟨g3, 2, none⟩ = false := MPut.frozen_of_row HT3.out.g _
  go_upto_region 3 with fail
  have hT : Tw (Pol.mk d A0 c0 A1 c1 A2 c2 A3 c3 A4 c4 A5 c5 A6 c6 A7 c7 A8 c8 A9 c9 A10 c10) w gv g3 (W3.setCell ⟨g3, 2, none⟩ nil) (qV v0 v1 nil v3 v4 v5 v6 v7 v8 v9 v10) v0 v1 v3 := HT3.out.set HGV.out HG3.out 2 nil
  obtain ⟨W4, hW⟩ : ∃ W4, W4 = W3.setCell ⟨g3, 2, none⟩ nil := ⟨_, rfl⟩
  rw [← hW] at hT ⊢
  have HT4 := Aside0.mk hT
  clear hT hW x3 y3 HT3
  have x4 := HT4.out.g.cell 4
  simp only [qV, List.getElem?_toArray, List.getElem?_cons_zero, List.getElem?_cons_succ] at x4
  have y4 : W4.frozen? ⟨g3, 4, none⟩ = false := MPut.frozen_of_row HT4.out.g _
  go_upto_region 4 with fail
  have hT : Tw (Pol.mk d A0 c0 A1 c1 A2 c2 A3 c3 A4 c4 A5 c5 A6 c6 A7 c7 A8 c8 A9 c9 A10 c10) w gv g3 (W4.setCell ⟨g3, 4, none⟩ nil) (qV v0 v1 nil v3 nil v5 v6 v7 v8 v9 v10) v0 v1 v3 := HT4.out.set HGV.out HG3.out 4 nil
  obtain ⟨W5, hW⟩ : ∃ W5, W5 = W4.setCell ⟨g3, 4, none⟩ nil := ⟨_, rfl⟩
  rw [← hW] at hT ⊢
  have HT5 := Aside0.mk hT
  clear hT hW x4 y4 HT4
  have x5 := HT5.out.g.cell 5
  simp only [qV, List.getElem?_toArray, List.getElem?_cons_zero, List.getElem?_cons_succ] at x5
  have y5 : W5.frozen? ⟨g3, 5, none⟩ = false := MPut.frozen_of_row HT5.out.g _
  go_upto_region 5 with fail
  have hT : Tw (Pol.mk d A0 c0 A1 c1 A2 c2 A3 c3 A4 c4 A5 c5 A6 c6 A7 c7 A8 c8 A9 c9 A10 c10) w gv g3 (W5.setCell ⟨g3, 5, none⟩ nil) (qV v0 v1 nil v3 nil nil v6 v7 v8 v9 v10) v0 v1 v3 := HT5.out.set HGV.out HG3.out 5 nil
  obtain ⟨W6, hW⟩ : ∃ W6, W6 = W5.setCell ⟨g3, 5, none⟩ nil := ⟨_, rfl⟩
  rw [← hW] at hT ⊢
  have HT6 := Aside0.mk hT
  clear hT hW x5 y5 HT5
  have x6 := HT6.out.g.cell 6
  simp only [qV, List.getElem?_toArray, List.getElem?_cons_zero, List.getElem?_cons_succ] at x6
  have y6 : W6.frozen? ⟨g3, 6, none⟩ = false := MPut.frozen_of_row HT6.out.g _
  go_upto_region 6 with fail
  have hT : Tw (Pol.mk d A0 c0 A1 c1 A2 c2 A3 c3 A4 c4 A5 c5 A6 c6 A7 c7 A8 c8 A9 c9 A10 c10) w gv g3 (W6.setCell ⟨g3, 6, none⟩ nil) (qV v0 v1 nil v3 nil nil nil v7 v8 v9 v10) v0 v1 v3 := HT6.out.set HGV.out HG3.out 6 nil
  obtain ⟨W7, hW⟩ : ∃ W7, W7 = W6.setCell ⟨g3, 6, none⟩ nil := ⟨_, rfl⟩
  rw [← hW] at hT ⊢
  have HT7 := Aside0.mk hT
  clear hT hW x6 y6 HT6
  have x7 := HT7.out.g.cell 7
  simp only [qV, List.getElem?_toArray, List.getElem?_cons_zero, List.getElem?_cons_succ] at x7
  have y7 : W7.frozen? ⟨g3, 7, none⟩ = false := MPut.frozen_of_row HT7.out.g _
  go_upto_region 7 with fail
  have hT : Tw (Pol.mk d A0 c0 A1 c1 A2 c2 A3 c3 A4 c4 A5 c5 A6 c6 A7 c7 A8 c8 A9 c9 A10 c10) w gv g3 (W7.setCell ⟨g3, 7, none⟩ nil) (qV v0 v1 nil v3 nil nil nil nil v8 v9 v10) v0 v1 v3 := HT7.out.set HGV.out HG3.out 7 nil
  obtain ⟨W8, hW⟩ : ∃ W8, W8 = W7.setCell ⟨g3, 7, none⟩ nil := ⟨_, rfl⟩
  rw [← hW] at hT ⊢
  have HT8 := Aside0.mk hT
  clear hT hW x7 y7 HT7
  have x8 := HT8.out.g.cell 8
  simp only [qV, List.getElem?_toArray, List.getElem?_cons_zero, List.getElem?_cons_succ] at x8
  have y8 : W8.frozen? ⟨g3, 8, none⟩ = false := MPut.frozen_of_row HT8.out.g _
  go_upto_region 8 with fail
  have hT : Tw (Pol.mk d A0 c0 A1 c1 A2 c2 A3 c3 A4 c4 A5 c5 A6 c6 A7 c7 A8 c8 A9 c9 A10 c10) w gv g3 (W8.setCell ⟨g3, 8, none⟩ nil) (qV v0 v1 nil v3 nil nil nil nil nil v9 v10) v0 v1 v3 := HT8.out.set HGV.out HG3.out 8 nil
  obtain ⟨W9, hW⟩ : ∃ W9, W9 = W8.setCell ⟨g3, 8, none⟩ nil := ⟨_, rfl⟩
  rw [← hW] at hT ⊢
  have HT9 := Aside0.mk hT
  clear hT hW x8 y8 HT8
  have x9 := HT9.out.g.cell 10
  simp only [qV, List.getElem?_toArray, List.getElem?_cons_zero, List.getElem?_cons_succ] at x9
  have y9 : W9.frozen? ⟨g3, 10, none⟩ = false := MPut.frozen_of_row HT9.out.g _
  go_upto_region 9 with fail
  have hT : Tw (Pol.mk d A0 c0 A1 c1 A2 c2 A3 c3 A4 c4 A5 c5 A6 c6 A7 c7 A8 c8 A9 c9 A10 c10) w gv g3 (W9.setCell ⟨g3, 10, none⟩ nil) (qV v0 v1 nil v3 nil nil nil nil nil v9 nil) v0 v1 v3 := HT9.out.set HGV.out HG3.out 10 nil
  obtain ⟨W10, hW⟩ : ∃ W10, W10 = W9.setCell ⟨g3, 10, none⟩ nil := ⟨_, rfl⟩
  rw [← hW] at hT ⊢
  have HT10 := Aside0.mk hT
  clear hT hW x9 y9 HT9
  have x10 := HT10.out.g.cell 9
  simp only [qV, List.getElem?_toArray, List.getElem?_cons_zero, List.getElem?_cons_succ] at x10
  have y10 : W10.frozen? ⟨g3, 9, none⟩ = false := MPut.frozen_of_row HT10.out.g _
  go_upto_region 10 with fail
  have hT : Tw (Pol.mk d A0 c0 A1 c1 A2 c2 A3 c3 A4 c4 A5 c5 A6 c6 A7 c7 A8 c8 A9 c9 A10 c10) w gv g3 (W10.setCell ⟨g3, 9, none⟩ nil) (qV v0 v1 nil v3 nil nil nil nil nil nil nil) v0 v1 v3 := HT10.out.set HGV.out HG3.out 9 nil
  obtain ⟨W11, hW⟩ : ∃ W11, W11 = W10.setCell ⟨g3, 9, none⟩ nil := ⟨_, rfl⟩
  rw [← hW] at hT ⊢
  have HT11 := Aside0.mk hT
  clear hT hW x10 y10 HT10
  go_upto_region 12 with (first | ((with_reducible refine gate_dst (N := 16) rfl ?_); refine wpList_load_blk rfl 39 (.tmp 1) rfl w.heap.size ?hx2 #[.slice A0 d.acts.length c0, .slice A1 d.subs.length c1, .slice A2 d.roles.length c2, .slice A3 d.objs.length c3, .slice A4 d.grps.length c4, .slice A5 d.mem.length c5, .slice A6 d.inh.length c6, .slice A7 d.par.length c7, .slice A8 d.wit.length c8, .slice A9 d.rules.length c9, .slice A10 d.exc.length c10] 39 HT11.out.box _ Try.underlying39 rfl i39 ?_; (case hx2 => rfl)) | (go_at_call 59; (refine (Relation_calls (Pol.mk d A0 c0 A1 c1 A2 c2 A3 c3 A4 c4 A5 c5 A6 c6 A7 c7 A8 c8 A9 c9 A10 c10) _ (HP.out.below HT11.out.below) HD.out HLIM.out.1 HLIM.out.2.1 HLIM.out.2.2).mono ?_); rintro e w12 ⟨vL, rfl, L, hL, hM, hl, hb⟩; have HT12 := Aside0.mk (HT11.out.move hb); have HL0 := Aside0.mk (Kd.R_lower hL HT11.out.below.size); have HM := Aside0.mk hM; have HLL := Aside0.mk hl; clear hL hM hl hb))
  obtain ⟨AL, cL, eL⟩ := Kd.R_slice HL0.out
  subst eL
  have HRL := Aside0.mk (off39 HL0.out HT12.out.g types28)
  have HV0 := Aside0.mk (off39 HT12.out.r0 HT12.out.g tyS)
  have HV1 := Aside0.mk (off39 HT12.out.r1 HT12.out.g ty54)
  have HV3 := Aside0.mk (off39 HT12.out.r3 HT12.out.g tyS)
  have HSP0 := Aside0.mk (Sp.mk (W := w12) (Same.refl _ w12) HT12.out.g (Kd.R_nil _ _ _ _ (fun _ => True)) : Sp g3 w12 w12 v0 v1 v3 nil [])
  clear HL0
  obtain ⟨n, hn⟩ : ∃ n, n = L.length := ⟨_, rfl⟩
  rw [← hn] at HRL
  have HN := Aside0.mk hn
  have hnl : n ≤ 65536 := by rw [hn]; exact HLL.out
  clear hn
  try rw [← HN.out]
  go_loopw [5] (fun u5 wr => ∃ (i : Nat) (vr : Value), i ≤ n ∧ u5 = .int .i64 i ∧ Aside0 (Sp g3 w12 wr v0 v1 v3 vr ((L.take i).map ruleOf))) (fun u5 _ => n - (intOf u5).toNat)
  case atStart => exact ⟨0, nil, Nat.zero_le _, rfl, HSP0⟩
  case round =>
    obtain ⟨i, vr, hi, rfl, HSP⟩ := hrel
    by_cases hlt : i < n
    · have hlt' : i < L.length := by rw [← HN.out]; exact hlt
      have hC := (Kd.R_reads' (HSP.out.same.toR HRL.out (fun _ h => h))).2.2
      obtain ⟨ad, q0, hx0, hx1, hx2⟩ := at_T28 hC (i : Int) (by omega) (by omega)
      subst q0
      have hget : rd_T28 L (i : Int) = L[i] := by simp [rd_T28, hlt']
      simp only [hget, Int.toNat_natCast] at hx0 hx1 hx2
      have htk : L.take (i + 1) = L.take i ++ [L[i]] := List.take_succ_eq_append_getElem hlt'
      obtain ⟨t, ht⟩ : ∃ t, t = L[i] := ⟨_, rfl⟩
      rw [← ht] at hx0 hx1 hx2 htk
      have HTK := Aside0.mk htk
      have HRLIM := Aside0.mk (show (((L.take i).map ruleOf).length + 1) * 80 ≤ 140737488355328 by rw [List.length_map, List.length_take]; omega)
      obtain ⟨rs, hrs⟩ : ∃ rs, rs = (L.take i).map ruleOf := ⟨_, rfl⟩
      rw [← hrs] at HSP HRLIM
      have HRS := Aside0.mk hrs
      have e9 := HSP.out.g.cell 9
      simp only [qV, List.getElem?_toArray, List.getElem?_cons_zero, List.getElem?_cons_succ] at e9
      have c01 : (i : Int) < n := by omega
      clear hC hget htk ht hrs hlt'
      go_upto_region 14 with fail
      refine start_ (n := 23) (S := fun w' => w'.cell? ⟨g3, 9, none⟩ = some vr ∧ w'.cell? (ad.add (i * 3)) = some (.string t.f0) ∧ w'.cell? ⟨(ad.add (i * 3)).block, (ad.add (i * 3)).off + 1, none⟩ = some (.string t.f1) ∧ w'.cell? ⟨(ad.add (i * 3)).block, (ad.add (i * 3)).off + 2, none⟩ = some (.string t.f2)) (ds := [20, 22]) #[false, false, false, false, false, false, false, false, false, false, false, false, false, false, false, false, false, false, false, false, false, false, false] (by kernel_rfl) rfl rfl ⟨e9, hx0, hx1, hx2⟩ (fun hHeld => ?_)
      have HSP6 := Aside0.mk (HSP.out.move (below_drew (Below.refl wr.heap.size wr)))
      obtain ⟨W6, hW6⟩ : ∃ W6, W6 = World.drew wr := ⟨_, rfl⟩
      rw [← hW6] at hHeld HSP6 ⊢
      clear hW6 e9 hx0 hx1 hx2 HSP
      refine pure_ (i := 0) (N := some 24) (v := ?_) (a' := ?_) #[true, false, false, false, false, false, false, false, false, false, false, false, false, false, false, false, false, false, false, false, false, false, false] rfl rfl (by kernel_rfl) (fun _ _ _ h => h) (Or.inl ⟨by rfl, ?_⟩) ?_ ?_
      rotate_left
      · intro w'
        go_simp
        with_reducible rfl
      rotate_left
      · simp only [Act.put, List.setIfInBounds_toArray, List.set_cons_zero, List.set_cons_succ]
        rfl
      refine take_ (i := 1) (N := some 25) (v := ?_) (a' := ?_) #[true, true, false, false, false, false, false, false, false, false, false, false, false, false, false, false, false, false, false, false, false, false, false] rfl rfl (by kernel_rfl) (fun _ _ _ h => h) (Or.inl ⟨by rfl, ?_⟩) hHeld ?_ ?_
      rotate_left
      · rintro w' ⟨s0, s1, s2, s3⟩
        go_simp
        with_reducible rfl
      rotate_left
      · simp only [Act.put, List.setIfInBounds_toArray, List.set_cons_zero, List.set_cons_succ]
        rfl
      refine pure_ (i := 2) (N := some 26) (v := ?_) (a' := ?_) #[true, true, true, false, false, false, false, false, false, false, false, false, false, false, false, false, false, false, false, false, false, false, false] rfl rfl (by kernel_rfl) (fun _ _ _ h => h) (Or.inl ⟨by rfl, ?_⟩) ?_ ?_
      rotate_left
      · intro w'
        go_simp
        with_reducible rfl
      rotate_left
      · simp only [Act.put, List.setIfInBounds_toArray, List.set_cons_zero, List.set_cons_succ]
        rfl
      refine pure_ (i := 3) (N := some 27) (v := ?_) (a' := ?_) #[true, true, true, true, false, false, false, false, false, false, false, false, false, false, false, false, false, false, false, false, false, false, false] rfl rfl (by kernel_rfl) (fun _ _ _ h => h) (Or.inl ⟨by rfl, ?_⟩) ?_ ?_
      rotate_left
      · intro w'
        go_simp
        with_reducible rfl
      rotate_left
      · simp only [Act.put, List.setIfInBounds_toArray, List.set_cons_zero, List.set_cons_succ]
        rfl
      refine pure_ (i := 4) (N := some 28) (v := ?_) (a' := ?_) #[true, true, true, true, true, false, false, false, false, false, false, false, false, false, false, false, false, false, false, false, false, false, false] rfl rfl (by kernel_rfl) (fun _ _ _ h => h) (Or.inl ⟨by rfl, ?_⟩) ?_ ?_
      rotate_left
      · intro w'
        go_simp
        with_reducible rfl
      rotate_left
      · simp only [Act.put, List.setIfInBounds_toArray, List.set_cons_zero, List.set_cons_succ]
        rfl
      refine pure_ (i := 5) (N := some 29) (v := ?_) (a' := ?_) #[true, true, true, true, true, true, false, false, false, false, false, false, false, false, false, false, false, false, false, false, false, false, false] rfl rfl (by kernel_rfl) (fun _ _ _ h => h) (Or.inl ⟨by rfl, ?_⟩) ?_ ?_
      rotate_left
      · intro w'
        go_simp
        with_reducible rfl
      rotate_left
      · simp only [Act.put, List.setIfInBounds_toArray, List.set_cons_zero, List.set_cons_succ]
        rfl
      refine take_ (i := 6) (N := some 30) (v := ?_) (a' := ?_) #[true, true, true, true, true, true, true, false, false, false, false, false, false, false, false, false, false, false, false, false, false, false, false] rfl rfl (by kernel_rfl) (fun _ _ _ h => h) (Or.inl ⟨by rfl, ?_⟩) hHeld ?_ ?_
      rotate_left
      · rintro w' ⟨s0, s1, s2, s3⟩
        go_simp
        with_reducible rfl
      rotate_left
      · simp only [Act.put, List.setIfInBounds_toArray, List.set_cons_zero, List.set_cons_succ]
        rfl
      refine pure_ (i := 7) (N := some 31) (v := ?_) (a' := ?_) #[true, true, true, true, true, true, true, true, false, false, false, false, false, false, false, false, false, false, false, false, false, false, false] rfl rfl (by kernel_rfl) (fun _ _ _ h => h) (Or.inl ⟨by rfl, ?_⟩) ?_ ?_
      rotate_left
      · intro w'
        go_simp
        with_reducible rfl
      rotate_left
      · simp only [Act.put, List.setIfInBounds_toArray, List.set_cons_zero, List.set_cons_succ]
        rfl
      refine pure_ (i := 8) (N := some 32) (v := ?_) (a' := ?_) #[true, true, true, true, true, true, true, true, true, false, false, false, false, false, false, false, false, false, false, false, false, false, false] rfl rfl (by kernel_rfl) (fun _ _ _ h => h) (Or.inl ⟨by rfl, ?_⟩) ?_ ?_
      rotate_left
      · intro w'
        go_simp
        with_reducible rfl
      rotate_left
      · simp only [Act.put, List.setIfInBounds_toArray, List.set_cons_zero, List.set_cons_succ]
        rfl
      refine pure_ (i := 9) (N := some 33) (v := ?_) (a' := ?_) #[true, true, true, true, true, true, true, true, true, true, false, false, false, false, false, false, false, false, false, false, false, false, false] rfl rfl (by kernel_rfl) (fun _ _ _ h => h) (Or.inl ⟨by rfl, ?_⟩) ?_ ?_
      rotate_left
      · intro w'
        go_simp
        with_reducible rfl
      rotate_left
      · simp only [Act.put, List.setIfInBounds_toArray, List.set_cons_zero, List.set_cons_succ]
        rfl
      refine pure_ (i := 10) (N := some 34) (v := ?_) (a' := ?_) #[true, true, true, true, true, true, true, true, true, true, true, false, false, false, false, false, false, false, false, false, false, false, false] rfl rfl (by kernel_rfl) (fun _ _ _ h => h) (Or.inl ⟨by rfl, ?_⟩) ?_ ?_
      rotate_left
      · intro w'
        go_simp
        with_reducible rfl
      rotate_left
      · simp only [Act.put, List.setIfInBounds_toArray, List.set_cons_zero, List.set_cons_succ]
        rfl
      refine take_ (i := 11) (N := some 35) (v := ?_) (a' := ?_) #[true, true, true, true, true, true, true, true, true, true, true, true, false, false, false, false, false, false, false, false, false, false, false] rfl rfl (by kernel_rfl) (fun _ _ _ h => h) (Or.inl ⟨by rfl, ?_⟩) hHeld ?_ ?_
      rotate_left
      · rintro w' ⟨s0, s1, s2, s3⟩
        go_simp
        with_reducible rfl
      rotate_left
      · simp only [Act.put, List.setIfInBounds_toArray, List.set_cons_zero, List.set_cons_succ]
        rfl
      refine pure_ (i := 12) (N := some 36) (v := ?_) (a' := ?_) #[true, true, true, true, true, true, true, true, true, true, true, true, true, false, false, false, false, false, false, false, false, false, false] rfl rfl (by kernel_rfl) (fun _ _ _ h => h) (Or.inl ⟨by rfl, ?_⟩) ?_ ?_
      rotate_left
      · intro w'
        go_simp
        with_reducible rfl
      rotate_left
      · simp only [Act.put, List.setIfInBounds_toArray, List.set_cons_zero, List.set_cons_succ]
        rfl
      refine pure_ (i := 13) (N := some 37) (v := ?_) (a' := ?_) #[true, true, true, true, true, true, true, true, true, true, true, true, true, true, false, false, false, false, false, false, false, false, false] rfl rfl (by kernel_rfl) (fun _ _ _ h => h) (Or.inl ⟨by rfl, ?_⟩) ?_ ?_
      rotate_left
      · intro w'
        go_simp
        with_reducible rfl
      rotate_left
      · simp only [Act.put, List.setIfInBounds_toArray, List.set_cons_zero, List.set_cons_succ]
        rfl
      refine pure_ (i := 14) (N := some 38) (v := ?_) (a' := ?_) #[true, true, true, true, true, true, true, true, true, true, true, true, true, true, true, false, false, false, false, false, false, false, false] rfl rfl (by kernel_rfl) (fun _ _ _ h => h) (Or.inl ⟨by rfl, ?_⟩) ?_ ?_
      rotate_left
      · intro w'
        go_simp
        with_reducible rfl
      rotate_left
      · simp only [Act.put, List.setIfInBounds_toArray, List.set_cons_zero, List.set_cons_succ]
        rfl
      refine pure_ (i := 15) (N := some 39) (v := ?_) (a' := ?_) #[true, true, true, true, true, true, true, true, true, true, true, true, true, true, true, true, false, false, false, false, false, false, false] rfl rfl (by kernel_rfl) (fun _ _ _ h => h) (Or.inl ⟨by rfl, ?_⟩) ?_ ?_
      rotate_left
      · intro w'
        go_simp
        with_reducible rfl
      rotate_left
      · simp only [Act.put, List.setIfInBounds_toArray, List.set_cons_zero, List.set_cons_succ]
        rfl
      refine take_ (i := 16) (N := some 40) (v := ?_) (a' := ?_) #[true, true, true, true, true, true, true, true, true, true, true, true, true, true, true, true, true, false, false, false, false, false, false] rfl rfl (by kernel_rfl) (fun _ _ _ h => h) (Or.inl ⟨by rfl, ?_⟩) hHeld ?_ ?_
      rotate_left
      · rintro w' ⟨s0, s1, s2, s3⟩
        go_simp
        with_reducible rfl
      rotate_left
      · simp only [Act.put, List.setIfInBounds_toArray, List.set_cons_zero, List.set_cons_succ]
        rfl
      refine one_ (i := 17) (N := some 41) #[true, true, true, true, true, true, true, true, true, true, true, true, true, true, true, true, true, true, false, false, false, false, false] rfl rfl (by kernel_rfl) (by decide) (fun K hK => ?_)
      refine GDiffer.step_run (w' := W6.alloc (.cells #[.string t.f2] 9)) (v := .slice (some ⟨W6.heap.size, 0, none⟩) 1 1) rfl rfl (by go_simp) ?_
      have hb := below_alloc (Below.refl _ W6) (.cells #[.string t.f2] 9)
      have hH := And.intro (pw_cell_below hb hHeld.1) (And.intro (pw_cell_below hb hHeld.2.1) (And.intro (pw_cell_below hb hHeld.2.2.1) (pw_cell_below hb hHeld.2.2.2)))
      clear hb hHeld
      refine hK.out _ _ hH (fun hHeld => ?_)
      clear hK K hH
      refine norm_ (a' := ?_) ?_ ?_
      rotate_left
      · show Act.put _ (some 41) _ = _
        simp only [Act.put, List.setIfInBounds_toArray, List.set_cons_zero, List.set_cons_succ]
        rfl
      have hz := z78v
      refine pure_ (i := 18) (N := some 42) (v := ?_) (a' := ?_) #[true, true, true, true, true, true, true, true, true, true, true, true, true, true, true, true, true, true, true, false, false, false, false] rfl rfl (by kernel_rfl) (fun _ _ _ h => h) (Or.inl ⟨by rfl, ?_⟩) ?_ ?_
      rotate_left
      · intro w'
        go_simp
        with_reducible rfl
      rotate_left
      · simp only [Act.put, List.setIfInBounds_toArray, List.set_cons_zero, List.set_cons_succ]
        rfl
      clear hz
      refine one_ (i := 19) (N := some 43) #[true, true, true, true, true, true, true, true, true, true, true, true, true, true, true, true, true, true, true, true, false, false, false] rfl rfl (by kernel_rfl) (by decide) (fun K hK => ?_)
      refine GDiffer.step_run (w' := (W6.alloc (.cells #[.string t.f2] 9)).alloc (.cells #[.bool false, .string t.f0, .string t.f1, .slice (some ⟨W6.heap.size, 0, none⟩) 1 1, .int .i8 0, .float .f64 0] 78)) (v := .slice (some ⟨(W6.alloc (.cells #[.string t.f2] 9)).heap.size, 0, none⟩) 1 1) rfl rfl (by go_simp) ?_
      have hb := below_alloc (Below.refl _ (W6.alloc (.cells #[.string t.f2] 9))) (.cells #[.bool false, .string t.f0, .string t.f1, .slice (some ⟨W6.heap.size, 0, none⟩) 1 1, .int .i8 0, .float .f64 0] 78)
      have hH := And.intro (pw_cell_below hb hHeld.1) (And.intro (pw_cell_below hb hHeld.2.1) (And.intro (pw_cell_below hb hHeld.2.2.1) (pw_cell_below hb hHeld.2.2.2)))
      clear hb hHeld
      refine hK.out _ _ hH (fun hHeld => ?_)
      clear hK K hH
      refine norm_ (a' := ?_) ?_ ?_
      rotate_left
      · show Act.put _ (some 43) _ = _
        simp only [Act.put, List.setIfInBounds_toArray, List.set_cons_zero, List.set_cons_succ]
        rfl
      clear hHeld
      refine last_ (i := 20) (N := some 44) #[true, true, true, true, true, true, true, true, true, true, true, true, true, true, true, true, true, true, true, true, true, false, false] rfl rfl (by kernel_rfl) (by decide) (fun K hK => ?_)
      obtain ⟨WA, hWA⟩ : ∃ WA, WA = W6.alloc (.cells #[.string t.f2] 9) := ⟨_, rfl⟩
      have hba := below_alloc (Below.refl _ W6) (.cells #[.string t.f2] 9)
      have hRA : Kd.R Kd.string 9 (W6.alloc (.cells #[.string t.f2] 9)) W6.heap.size (fun k => (Value.slice (some ⟨W6.heap.size, 0, none⟩) 1 1).ownBlock = some k) (.slice (some ⟨W6.heap.size, 0, none⟩) 1 1) [t.f2] := one_text W6 t.f2
      have hne : ∀ k, (Value.slice (some ⟨W6.heap.size, 0, none⟩) 1 1).ownBlock = some k → True ∧ some k ≠ vr.ownBlock := fun k hk => ⟨trivial, fun e => by
        obtain ⟨inner, ho⟩ := Kd.R_own HSP6.out.rs
        have h1 := own_lt ho k e.symm
        have h2 : W6.heap.size = k := Option.some.inj hk
        omega⟩
      have hSPA := HSP6.out.move hba
      have hwz : w12.heap.size ≤ W6.heap.size := HSP6.out.same.size
      have hpM := k78_mkM (W6.alloc (.cells #[.string t.f2] 9)) w12.heap.size _ (ruleOf t) (Kd.R_lower hRA hwz)
      rw [← hWA] at hSPA hpM hba ⊢
      refine Kd.R_append_step k78 (w0 := WA) w12.heap.size rfl (.tmp 25) (.tmp 43) 36 78 _ 80 rfl Try.underlying36 info78 rfl (by decide) (by decide) vr rs (ruleOf t) [.bool false, .string t.f0, .string t.f1, .slice (some ⟨W6.heap.size, 0, none⟩) 1 1, .int .i8 0, .float .f64 0] (fun _ => True) _ rfl rfl hpM hne (fun _ _ => trivial) hSPA.rs (Below.refl _ _) (Nat.le_trans hwz hba.size) HRLIM.out ?_
      intro v9 w9 hR9 hB9 hg9 hat9
      obtain ⟨A9', c9', e9'⟩ := Kd.R_slice hR9
      obtain ⟨n9, hn9⟩ : ∃ n9, n9 = (rs ++ [ruleOf t]).length := ⟨_, rfl⟩
      rw [← hn9] at e9'
      subst e9'
      have HSP9 := Aside0.mk (hSPA.app hR9 hg9)
      have hG9 := hSPA.kept hg9
      have x9 := hG9.cell 9
      simp only [qV, List.getElem?_toArray, List.getElem?_cons_zero, List.getElem?_cons_succ] at x9
      have y9 : w9.frozen? ⟨g3, 9, none⟩ = false := MPut.frozen_of_row hG9 _
      clear hR9 hB9 hg9 hat9 hn9 hRA hne hSPA hpM hG9 hba hWA hwz
      refine hK.out _ _ ?_
      clear hK K
      refine norm_ (a' := ?_) ?_ ?_
      rotate_left
      · show Act.put _ (some 44) _ = _
        simp only [Act.put, List.setIfInBounds_toArray, List.set_cons_zero, List.set_cons_succ]
        rfl
      refine pure_ (i := 21) (N := some 45) (v := ?_) (a' := ?_) #[true, true, true, true, true, true, true, true, true, true, true, true, true, true, true, true, true, true, true, true, true, true, false] rfl rfl (by kernel_rfl) (fun _ _ _ h => h) (Or.inl ⟨by rfl, ?_⟩) ?_ ?_
      rotate_left
      · intro w'
        go_simp
        with_reducible rfl
      rotate_left
      · simp only [Act.put, List.setIfInBounds_toArray, List.set_cons_zero, List.set_cons_succ]
        rfl
      refine last_ (i := 22) (N := none) #[true, true, true, true, true, true, true, true, true, true, true, true, true, true, true, true, true, true, true, true, true, true, true] rfl rfl (by kernel_rfl) (by decide) (fun K hK => ?_)
      refine GDiffer.step_skip (w' := w9.setCell ⟨g3, 9, none⟩ (.slice A9' n9 c9')) rfl rfl (by go_simp) ?_
      refine hK.out _ _ ?_
      clear hK K x9 y9
      refine done_ (by kernel_rfl) ?_
      have hnx : rs ++ [ruleOf t] = (L.take (i + 1)).map ruleOf := by rw [HTK.out, List.map_append, HRS.out]; rfl
      rw [hnx] at HSP9
      go_wp2
      go_roundw
      case rel => exact ⟨i + 1, _, by omega, by go_num, HSP9⟩
      case measure => simp [intOf]; omega
    · have hii : i = n := by omega
      subst hii
      have hA := HSP.out
      rw [List.take_of_length_le (by rw [← HN.out]; exact Nat.le_refl _)] at hA
      have hVf := hA.same.stays HT12.out.res (by have h1 := HG3.out; intro e; have e : gv = g3 := e; omega)
      have q0 := hA.same.toR HV0.out (fun _ h => h)
      have q1 := hA.same.toR HV1.out (fun _ h => h)
      have q3 := hA.same.toR HV3.out (fun _ h => h)
      have q9 := hA.rs
      obtain ⟨B0, k0, rfl⟩ := Kd.R_slice q0
      obtain ⟨B1, k1, rfl⟩ := Kd.R_slice q1
      obtain ⟨B3, k3, rfl⟩ := Kd.R_slice q3
      obtain ⟨B9, k9, rfl⟩ := Kd.R_slice q9
      obtain ⟨G0, hG0⟩ : ∃ G0 : Array Value, G0 = qV (.slice B0 d.acts.length k0) (.slice B1 d.subs.length k1) nil (.slice B3 d.objs.length k3) nil nil nil nil nil (.slice B9 (L.map ruleOf).length k9) nil := ⟨_, rfl⟩
      have hsz : G0.size = 11 := by rw [hG0]; rfl
      have h1c : G0.all (·.oneCell') = true := by rw [hG0]; simp [qV, nil, Value.oneCell']
      have hg : Stays wr g3 G0 39 := by rw [hG0]; exact hA.g
      have HVF := Aside0.mk hVf
      have HGF := Aside0.mk hg
      have HSZ := Aside0.mk (show (Try.prog.info? 39).map (·.size) = some G0.size by rw [hsz]; exact i39)
      have HSZ2 := Aside0.mk (show G0.size = (#[.slice none 0 0, .slice none 0 0, .slice none 0 0, .slice none 0 0, .slice none 0 0, .slice none 0 0, .slice none 0 0, .slice none 0 0, .slice none 0 0, .slice none 0 0, .slice none 0 0] : Array Value).size by rw [hsz]; rfl)
      have H1C := Aside0.mk h1c
      have HG0 := Aside0.mk hG0
      have HBF := Aside0.mk (hA.same.below HT12.out.below (fun k hk => by have h1 := HG3.out; have h2 := HGV.out; have hk : k = g3 := hk; omega))
      have Q0 := Aside0.mk q0
      have Q1 := Aside0.mk q1
      have Q3 := Aside0.mk q3
      have Q9 := Aside0.mk (Kd.R_lower q9 HT12.out.below.size)
      clear hA hVf q0 q1 q3 q9 hsz h1c hg hG0 HSP
      go_wp2_with (first | ((with_reducible refine gate_dst (N := 46) rfl ?_); refine wpList_load_blk rfl 39 (.tmp 3) rfl g3 ?hx3 G0 39 HGF.out _ Try.underlying39 rfl HSZ.out ?_; (case hx3 => rfl)) | ((with_reducible refine gate_store (t := 39) (p := 2) (v := .tmp 46) rfl ?_); refine wpList_store_var rfl 39 (.tmp 2) (.tmp 46) rfl gv G0 ?hx4 ?hy4 HVF.out HSZ2.out HSZ.out H1C.out ?_; (case hx4 => rfl); (case hy4 => rfl)))
      (try simp only [Exit.inBlock, Exit.then])
      have hres := setCells_var (vs := G0) HVF.out HSZ2.out
      refine bodyPost_ret (results_single rfl (.cell gv 39 G0 (0, 0) _ rfl hres Try.underlying39 rfl HSZ.out .nil)) rfl ?_
      have p0 := Kd.R_reads' (R_setCells Q0.out HVF.out tyS G0.toList)
      have p1 := Kd.R_reads' (R_setCells Q1.out HVF.out ty54 G0.toList)
      have p3 := Kd.R_reads' (R_setCells Q3.out HVF.out tyS G0.toList)
      have p9 := Kd.R_reads' (R_setCells Q9.out HVF.out types78 G0.toList)
      refine ⟨⟨spell d L, B0, k0, B1, k1, none, 0, B3, k3, none, 0, none, 0, none, 0, none, 0, none, 0, B9, k9, none, 0⟩, ?_, ⟨p0.2.2, p1.2.2, C_nil _ _, p3.2.2, C_nil _ _, C_nil _ _, C_nil _ _, C_nil _ _, C_nil _ _, p9.2.2, C_nil _ _, p0.2.1, p1.2.1, Nat.le_refl _, p3.2.1, Nat.le_refl _, Nat.le_refl _, Nat.le_refl _, Nat.le_refl _, Nat.le_refl _, p9.2.1, Nat.le_refl _⟩, L, rfl, HM.out, HLL.out, setCells_below HBF.out (Nat.le_of_lt HGV.out) _⟩
      rw [HG0.out]; rfl

end Go.Proofs.Ythaiodklfoegiaa.CSpell
