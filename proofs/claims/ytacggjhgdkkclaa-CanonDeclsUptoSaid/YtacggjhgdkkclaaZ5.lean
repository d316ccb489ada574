/- Of this session's texts, what the row uses: KUnt. -/
import Derived.Test.YtacggjhgdkkclaaZ4
/- gatehouselaw05.Room.untouched, walked. -/
namespace Go.Proofs.Ytacggjhgdkkclaa.KUnt
open Go.RowKit Go.Proofs.YtacggjhgdkkclaaW.PrintWords Go.Proofs.YtacggjhgdkkclaaW.PrintLast Go.Proofs.YtacggjhgdkkclaaW.PrintMore Go.Maps
open Go.Proofs.Ytacggjhgdkkclaa Go.Proofs.Ytacggjhgdkkclaa.PG Go.Proofs.YtacggjhgdkkclaaF Go.Proofs.Ytacggjhgdkkclaa.KBase Go.Proofs.Ytacggjhgdkkclaa.KRoomB Go.Proofs.Ytacggjhgdkkclaa.KUntP
set_option linter.unusedSimpArgs false
attribute [local go_sem high] run_feq run_fne run_flt_lt run_flt_le run_flt_gt run_flt_ge
structure RA where
 F0 : Option Addr
 f0 : Nat
 F1 : Option Addr
 f1 : Nat
 F2 : Option Addr
 f2 : Nat
 F3 : Option Addr
 f3 : Nat
 F4 : Option Addr
 f4 : Nat
 F5 : Option Addr
 f5 : Nat
 F6 : Option Addr
 f6 : Nat
 F7 : Option Addr
 f7 : Nat
 F8 : Option Addr
 f8 : Nat
 F9 : Option Addr
 f9 : Nat
 F10 : Option Addr
 f10 : Nat
 AL : Option Addr
 cL : Nat
structure RA.In (r : RA) (d : PolD) (W : World) : Prop where
 x0 : Kd.C Kd.string W r.F0 (d.acts.length + 1) (d.acts ++ [sh])
 k0 : d.acts.length + 1 ≤ r.f0
 x1 : Kd.C k42 W r.F1 (d.subs.length + 1) (d.subs ++ ([⟨sh, 0⟩] : List S42))
 k1 : d.subs.length + 1 ≤ r.f1
 x2 : Kd.C Kd.string W r.F2 (d.roles.length + 1) (d.roles ++ [sh])
 k2 : d.roles.length + 1 ≤ r.f2
 x3 : Kd.C Kd.string W r.F3 (d.objs.length + 1) (d.objs ++ [sh])
 k3 : d.objs.length + 1 ≤ r.f3
 x4 : Kd.C Kd.string W r.F4 (d.grps.length + 1) (d.grps ++ [sh])
 k4 : d.grps.length + 1 ≤ r.f4
 x5 : Kd.C k59 W r.F5 (d.mem.length + 1) (d.mem ++ ([⟨sh, e0⟩] : List S59))
 k5 : d.mem.length + 1 ≤ r.f5
 x6 : Kd.C k59 W r.F6 (d.inh.length + 1) (d.inh ++ ([⟨sh, e0⟩] : List S59))
 k6 : d.inh.length + 1 ≤ r.f6
 x7 : Kd.C k59 W r.F7 (d.par.length + 1) (d.par ++ ([⟨sh, e0⟩] : List S59))
 k7 : d.par.length + 1 ≤ r.f7
 x8 : Kd.C k59 W r.F8 (d.wit.length + 1) (d.wit ++ ([⟨sh, e0⟩] : List S59))
 k8 : d.wit.length + 1 ≤ r.f8
 x9 : Kd.C k51 W r.F9 (d.rules.length + 1) (d.rules ++ ([⟨false, sh, e0, [], 0, 0⟩] : List S51))
 k9 : d.rules.length + 1 ≤ r.f9
 x10 : Kd.C k53 W r.F10 (d.exc.length + 1) (d.exc ++ ([⟨sh, e0, e0⟩] : List S53))
 k10 : d.exc.length + 1 ≤ r.f10
 xl : Kd.C (Kd.slice 9 Kd.string) W r.AL d.rules.length (d.rules.map (fun x => x.f3 ++ [sh]))
 kl : d.rules.length ≤ r.cL
theorem RA.In.below {r : RA} {d : PolD} {W W1 : World} (h : r.In d W) (hb : Below W.heap.size W W1) : r.In d W1 :=
 ⟨Kd.C_below h.x0 hb, h.k0, Kd.C_below h.x1 hb, h.k1, Kd.C_below h.x2 hb, h.k2, Kd.C_below h.x3 hb, h.k3, Kd.C_below h.x4 hb, h.k4, Kd.C_below h.x5 hb, h.k5, Kd.C_below h.x6 hb, h.k6, Kd.C_below h.x7 hb, h.k7, Kd.C_below h.x8 hb, h.k8, Kd.C_below h.x9 hb, h.k9, Kd.C_below h.x10 hb, h.k10, Kd.C_below h.xl hb, h.kl⟩
structure Uw (w : World) (g5 : Nat) (rc pc fc : Array Value) (W : World) : Prop where
 room : Stays W w.heap.size rc 33
 pol : Stays W (w.heap.size + 1) pc 28
 full : Stays W g5 fc 28
 below : Below w.heap.size w W
theorem Uw.move {w W W1 : World} {g5 : Nat} {rc pc fc : Array Value} (h : Uw w g5 rc pc fc W) (hb : Below W.heap.size W W1) : Uw w g5 rc pc fc W1 := ⟨h.room.below hb, h.pol.below hb, h.full.below hb, below_then h.below h.below.size hb⟩
structure Short (d : PolD) : Prop where
 acts : d.acts.length ≤ 1048576
 subs : d.subs.length ≤ 1048576
 roles : d.roles.length ≤ 1048576
 objs : d.objs.length ≤ 1048576
 grps : d.grps.length ≤ 1048576
 mem : d.mem.length ≤ 1048576
 inh : d.inh.length ≤ 1048576
 par : d.par.length ≤ 1048576
 wit : d.wit.length ≤ 1048576
 rules : d.rules.length ≤ 1048576
 exc : d.exc.length ≤ 1048576
 each : ∀ r ∈ d.rules, r.f3.length ≤ 1048576
theorem long_go (A A' : Option Addr) (c c' : Nat) (l : List ByteArray) (w : World) (hl : l.length ≤ 1048576) (h : Kd.C Kd.string w A (l.length + 1) (l ++ [sh])) (hc : l.length + 1 ≤ c) (h' : Kd.C Kd.string w A' l.length l) (hc' : l.length ≤ c') :
  Calls Try.prog 19 #[.slice A (l.length + 1) c, .slice A' l.length c'] w fun e w' => e = .returned (.bool true) ∧ Below w.heap.size w w' := by
 have e : (l ++ [sh]).length = l.length + 1 := by simp
 have := asLong_go A A' c c' l w hl (by rw [e]; exact h) (by rw [e]; exact hc) h' hc'
 rwa [e] at this
theorem pair_go (A A' : Option Addr) (c c' : Nat) (l : List S59) (w : World) (hl : l.length ≤ 1048576) (h : Kd.C k59 w A (l.length + 1) (l ++ ([⟨sh, e0⟩] : List S59))) (hc : l.length + 1 ≤ c) (h' : Kd.C k59 w A' l.length l) (hc' : l.length ≤ c') :
  Calls Try.prog 20 #[.slice A (l.length + 1) c, .slice A' l.length c'] w fun e w' => e = .returned (.bool true) ∧ Below w.heap.size w w' := by
 have e : (l ++ ([⟨sh, e0⟩] : List S59)).length = l.length + 1 := by simp
 have := asPairs_go A A' c c' l w hl (by rw [e]; exact h) (by rw [e]; exact hc) h' hc'
 rwa [e] at this
theorem wrap_nat (j : Nat) (h : j ≤ 4194304000) : wrap64 ((j : Int) + 1) = ((j + 1 : Nat) : Int) := by unfold wrap64; omega
theorem round_end {n j : Nat} {P : Prop} (h : j < n) (hn : j ≤ 4194304000) (hP : ∀ _ : Value.int .i64 (wrap64 ((j : Int) + 1)) = Value.int .i64 ((j + 1 : Nat) : Int), P) : P ∧ n - (intOf (Value.int .i64 (wrap64 ((j : Int) + 1)))).toNat < n - (intOf (Value.int .i64 (j : Int))).toNat := by
 refine ⟨hP (by rw [wrap_nat j hn]), ?_⟩
 rw [wrap_nat j hn]
 simp only [intOf]
 omega
theorem z51 (w : World) : (zeroValue 51).run Try.prog w = .ok (.agg #[.bool false, .string ⟨#[]⟩, .string ⟨#[]⟩, .slice none 0 0, .int .i8 0, .float .f64 0]) w := by kernel_rfl
theorem z28 (w : World) : (zeroValue 28).run Try.prog w = .ok (.agg #[.slice none 0 0, .slice none 0 0, .slice none 0 0, .slice none 0 0, .slice none 0 0, .slice none 0 0, .slice none 0 0, .slice none 0 0, .slice none 0 0, .slice none 0 0, .slice none 0 0]) w := by kernel_rfl
def roomV (q : Pol) (r : RA) : Array Value := #[.slice q.A0 q.d.acts.length q.c0, .slice q.A1 q.d.subs.length q.c1, .slice q.A2 q.d.roles.length q.c2, .slice q.A3 q.d.objs.length q.c3, .slice q.A4 q.d.grps.length q.c4, .slice q.A5 q.d.mem.length q.c5, .slice q.A6 q.d.inh.length q.c6, .slice q.A7 q.d.par.length q.c7, .slice q.A8 q.d.wit.length q.c8, .slice q.A9 q.d.rules.length q.c9, .slice q.A10 q.d.exc.length q.c10, .slice r.F0 (q.d.acts.length + 1) r.f0, .slice r.F1 (q.d.subs.length + 1) r.f1, .slice r.F2 (q.d.roles.length + 1) r.f2, .slice r.F3 (q.d.objs.length + 1) r.f3, .slice r.F4 (q.d.grps.length + 1) r.f4, .slice r.F5 (q.d.mem.length + 1) r.f5, .slice r.F6 (q.d.inh.length + 1) r.f6, .slice r.F7 (q.d.par.length + 1) r.f7, .slice r.F8 (q.d.wit.length + 1) r.f8, .slice r.F9 (q.d.rules.length + 1) r.f9, .slice r.F10 (q.d.exc.length + 1) r.f10, .slice r.AL q.d.rules.length r.cL]
set_option maxHeartbeats 8000000 in
set_option maxRecDepth 100000 in
theorem untouched_calls (p q : Pol) (r : RA) (w : World) (hp : p.In w) (hq : q.d = p.d) (hr : r.In p.d w) (hd : Short p.d) :
  Calls Try.prog 7 #[.agg (roomV q r), .agg p.cells] w fun e w' => e = .returned (.bool true) ∧ Below w.heap.size w w' := by
 obtain ⟨d, A0, c0, A1, c1, A2, c2, A3, c3, A4, c4, A5, c5, A6, c6, A7, c7, A8, c8, A9, c9, A10, c10⟩ := p
 obtain ⟨dq, G0, h0, G1, h1, G2, h2, G3, h3, G4, h4, G5, h5, G6, h6, G7, h7, G8, h8, G9, h9, G10, h10⟩ := q
 obtain ⟨F0, f0, F1, f1, F2, f2, F3, f3, F4, f4, F5, f5, F6, f6, F7, f7, F8, f8, F9, f9, F10, f10, AL, cL⟩ := r
 have hq : d = dq := hq.symm
 subst hq
 have HP := Aside0.mk (fun (W : World) (hb : Below w.heap.size w W) => hp.below hb)
 have HR := Aside0.mk (fun (W : World) (hb : Below w.heap.size w W) => hr.below hb)
 have HD := Aside0.mk (show Short d from hd)
 clear hp hr hd
 have hr2 : Stays ((w.alloc (.cells #[.slice G0 d.acts.length h0, .slice G1 d.subs.length h1, .slice G2 d.roles.length h2, .slice G3 d.objs.length h3, .slice G4 d.grps.length h4, .slice G5 d.mem.length h5, .slice G6 d.inh.length h6, .slice G7 d.par.length h7, .slice G8 d.wit.length h8, .slice G9 d.rules.length h9, .slice G10 d.exc.length h10, .slice F0 (d.acts.length + 1) f0, .slice F1 (d.subs.length + 1) f1, .slice F2 (d.roles.length + 1) f2, .slice F3 (d.objs.length + 1) f3, .slice F4 (d.grps.length + 1) f4, .slice F5 (d.mem.length + 1) f5, .slice F6 (d.inh.length + 1) f6, .slice F7 (d.par.length + 1) f7, .slice F8 (d.wit.length + 1) f8, .slice F9 (d.rules.length + 1) f9, .slice F10 (d.exc.length + 1) f10, .slice AL d.rules.length cL] 33)).alloc (.cells #[.slice A0 d.acts.length c0, .slice A1 d.subs.length c1, .slice A2 d.roles.length c2, .slice A3 d.objs.length c3, .slice A4 d.grps.length c4, .slice A5 d.mem.length c5, .slice A6 d.inh.length c6, .slice A7 d.par.length c7, .slice A8 d.wit.length c8, .slice A9 d.rules.length c9, .slice A10 d.exc.length c10] 28)) w.heap.size #[.slice G0 d.acts.length h0, .slice G1 d.subs.length h1, .slice G2 d.roles.length h2, .slice G3 d.objs.length h3, .slice G4 d.grps.length h4, .slice G5 d.mem.length h5, .slice G6 d.inh.length h6, .slice G7 d.par.length h7, .slice G8 d.wit.length h8, .slice G9 d.rules.length h9, .slice G10 d.exc.length h10, .slice F0 (d.acts.length + 1) f0, .slice F1 (d.subs.length + 1) f1, .slice F2 (d.roles.length + 1) f2, .slice F3 (d.objs.length + 1) f3, .slice F4 (d.grps.length + 1) f4, .slice F5 (d.mem.length + 1) f5, .slice F6 (d.inh.length + 1) f6, .slice F7 (d.par.length + 1) f7, .slice F8 (d.wit.length + 1) f8, .slice F9 (d.rules.length + 1) f9, .slice F10 (d.exc.length + 1) f10, .slice AL d.rules.length cL] 33 := Stays.below (heap_alloc_new w _) (below_alloc (Below.refl _ _) _)
 have hp2 : Stays ((w.alloc (.cells #[.slice G0 d.acts.length h0, .slice G1 d.subs.length h1, .slice G2 d.roles.length h2, .slice G3 d.objs.length h3, .slice G4 d.grps.length h4, .slice G5 d.mem.length h5, .slice G6 d.inh.length h6, .slice G7 d.par.length h7, .slice G8 d.wit.length h8, .slice G9 d.rules.length h9, .slice G10 d.exc.length h10, .slice F0 (d.acts.length + 1) f0, .slice F1 (d.subs.length + 1) f1, .slice F2 (d.roles.length + 1) f2, .slice F3 (d.objs.length + 1) f3, .slice F4 (d.grps.length + 1) f4, .slice F5 (d.mem.length + 1) f5, .slice F6 (d.inh.length + 1) f6, .slice F7 (d.par.length + 1) f7, .slice F8 (d.wit.length + 1) f8, .slice F9 (d.rules.length + 1) f9, .slice F10 (d.exc.length + 1) f10, .slice AL d.rules.length cL] 33)).alloc (.cells #[.slice A0 d.acts.length c0, .slice A1 d.subs.length c1, .slice A2 d.roles.length c2, .slice A3 d.objs.length c3, .slice A4 d.grps.length c4, .slice A5 d.mem.length c5, .slice A6 d.inh.length c6, .slice A7 d.par.length c7, .slice A8 d.wit.length c8, .slice A9 d.rules.length c9, .slice A10 d.exc.length c10] 28)) (w.heap.size + 1) #[.slice A0 d.acts.length c0, .slice A1 d.subs.length c1, .slice A2 d.roles.length c2, .slice A3 d.objs.length c3, .slice A4 d.grps.length c4, .slice A5 d.mem.length c5, .slice A6 d.inh.length c6, .slice A7 d.par.length c7, .slice A8 d.wit.length c8, .slice A9 d.rules.length c9, .slice A10 d.exc.length c10] 28 := by
  have h := heap_alloc_new (w.alloc (.cells #[.slice G0 d.acts.length h0, .slice G1 d.subs.length h1, .slice G2 d.roles.length h2, .slice G3 d.objs.length h3, .slice G4 d.grps.length h4, .slice G5 d.mem.length h5, .slice G6 d.inh.length h6, .slice G7 d.par.length h7, .slice G8 d.wit.length h8, .slice G9 d.rules.length h9, .slice G10 d.exc.length h10, .slice F0 (d.acts.length + 1) f0, .slice F1 (d.subs.length + 1) f1, .slice F2 (d.roles.length + 1) f2, .slice F3 (d.objs.length + 1) f3, .slice F4 (d.grps.length + 1) f4, .slice F5 (d.mem.length + 1) f5, .slice F6 (d.inh.length + 1) f6, .slice F7 (d.par.length + 1) f7, .slice F8 (d.wit.length + 1) f8, .slice F9 (d.rules.length + 1) f9, .slice F10 (d.exc.length + 1) f10, .slice AL d.rules.length cL] 33)) (.cells #[.slice A0 d.acts.length c0, .slice A1 d.subs.length c1, .slice A2 d.roles.length c2, .slice A3 d.objs.length c3, .slice A4 d.grps.length c4, .slice A5 d.mem.length c5, .slice A6 d.inh.length c6, .slice A7 d.par.length c7, .slice A8 d.wit.length c8, .slice A9 d.rules.length c9, .slice A10 d.exc.length c10] 28)
  rw [World.size_alloc] at h
  exact h
 have hb2 : Below w.heap.size w ((w.alloc (.cells #[.slice G0 d.acts.length h0, .slice G1 d.subs.length h1, .slice G2 d.roles.length h2, .slice G3 d.objs.length h3, .slice G4 d.grps.length h4, .slice G5 d.mem.length h5, .slice G6 d.inh.length h6, .slice G7 d.par.length h7, .slice G8 d.wit.length h8, .slice G9 d.rules.length h9, .slice G10 d.exc.length h10, .slice F0 (d.acts.length + 1) f0, .slice F1 (d.subs.length + 1) f1, .slice F2 (d.roles.length + 1) f2, .slice F3 (d.objs.length + 1) f3, .slice F4 (d.grps.length + 1) f4, .slice F5 (d.mem.length + 1) f5, .slice F6 (d.inh.length + 1) f6, .slice F7 (d.par.length + 1) f7, .slice F8 (d.wit.length + 1) f8, .slice F9 (d.rules.length + 1) f9, .slice F10 (d.exc.length + 1) f10, .slice AL d.rules.length cL] 33)).alloc (.cells #[.slice A0 d.acts.length c0, .slice A1 d.subs.length c1, .slice A2 d.roles.length c2, .slice A3 d.objs.length c3, .slice A4 d.grps.length c4, .slice A5 d.mem.length c5, .slice A6 d.inh.length c6, .slice A7 d.par.length c7, .slice A8 d.wit.length c8, .slice A9 d.rules.length c9, .slice A10 d.exc.length c10] 28)) := below_alloc (below_alloc (Below.refl _ _) _) _
 unfold Pol.cells roomV
 go_enter Try.func7, Try.ntmps7
 go_upto_region 1 with fail
 obtain ⟨W0, hW0⟩ : ∃ W0, W0 = (w.alloc (.cells #[.slice G0 d.acts.length h0, .slice G1 d.subs.length h1, .slice G2 d.roles.length h2, .slice G3 d.objs.length h3, .slice G4 d.grps.length h4, .slice G5 d.mem.length h5, .slice G6 d.inh.length h6, .slice G7 d.par.length h7, .slice G8 d.wit.length h8, .slice G9 d.rules.length h9, .slice G10 d.exc.length h10, .slice F0 (d.acts.length + 1) f0, .slice F1 (d.subs.length + 1) f1, .slice F2 (d.roles.length + 1) f2, .slice F3 (d.objs.length + 1) f3, .slice F4 (d.grps.length + 1) f4, .slice F5 (d.mem.length + 1) f5, .slice F6 (d.inh.length + 1) f6, .slice F7 (d.par.length + 1) f7, .slice F8 (d.wit.length + 1) f8, .slice F9 (d.rules.length + 1) f9, .slice F10 (d.exc.length + 1) f10, .slice AL d.rules.length cL] 33)).alloc (.cells #[.slice A0 d.acts.length c0, .slice A1 d.subs.length c1, .slice A2 d.roles.length c2, .slice A3 d.objs.length c3, .slice A4 d.grps.length c4, .slice A5 d.mem.length c5, .slice A6 d.inh.length c6, .slice A7 d.par.length c7, .slice A8 d.wit.length c8, .slice A9 d.rules.length c9, .slice A10 d.exc.length c10] 28) := ⟨_, rfl⟩
 rw [← hW0] at hr2 hp2 hb2 ⊢
 have HR2 := Aside0.mk hr2
 have HP2 := Aside0.mk hp2
 have HB2 := Aside0.mk hb2
 clear hr2 hp2 hb2 hW0
 have hld : ∀ (j : Nat) (v : Value), (#[.slice F0 (d.acts.length + 1) f0, .slice F1 (d.subs.length + 1) f1, .slice F2 (d.roles.length + 1) f2, .slice F3 (d.objs.length + 1) f3, .slice F4 (d.grps.length + 1) f4, .slice F5 (d.mem.length + 1) f5, .slice F6 (d.inh.length + 1) f6, .slice F7 (d.par.length + 1) f7, .slice F8 (d.wit.length + 1) f8, .slice F9 (d.rules.length + 1) f9, .slice F10 (d.exc.length + 1) f10] : Array Value).toList[j]? = some v → W0.cell? ((⟨w.heap.size, 11, none⟩ : Addr).add j) = some v := by
  intro j v hj
  have hlt : j < 11 := by have := (List.getElem?_eq_some_iff.1 hj).1; simpa using this
  have h := HR2.out.cell (11 + j)
  rw [show (⟨w.heap.size, 11, none⟩ : Addr).add j = ⟨w.heap.size, 11 + j, none⟩ by simp [Addr.add], h, ← hj]
  have hc : j = 0 ∨ j = 1 ∨ j = 2 ∨ j = 3 ∨ j = 4 ∨ j = 5 ∨ j = 6 ∨ j = 7 ∨ j = 8 ∨ j = 9 ∨ j = 10 := by omega
  rcases hc with rfl | rfl | rfl | rfl | rfl | rfl | rfl | rfl | rfl | rfl | rfl <;> rfl
 have HLD := Aside0.mk hld
 clear hld
 go_upto_region 2 with (first | ((with_reducible refine gate_dst (N := 14) rfl ?_); refine wpList_load_at rfl 28 (.tmp 13) rfl ⟨w.heap.size, 11, none⟩ ?hx1 (#[.slice F0 (d.acts.length + 1) f0, .slice F1 (d.subs.length + 1) f1, .slice F2 (d.roles.length + 1) f2, .slice F3 (d.objs.length + 1) f3, .slice F4 (d.grps.length + 1) f4, .slice F5 (d.mem.length + 1) f5, .slice F6 (d.inh.length + 1) f6, .slice F7 (d.par.length + 1) f7, .slice F8 (d.wit.length + 1) f8, .slice F9 (d.rules.length + 1) f9, .slice F10 (d.exc.length + 1) f10] : Array Value).toList HLD.out _ Try.underlying28 rfl (by kernel_rfl) ?_; (case hx1 => rfl)) | ((with_reducible refine gate_dst (N := 5) rfl ?_); refine wpList_alloc_store rfl rfl 28 5 (.tmp 14) rfl rfl rfl #[.slice none 0 0, .slice none 0 0, .slice none 0 0, .slice none 0 0, .slice none 0 0, .slice none 0 0, .slice none 0 0, .slice none 0 0, .slice none 0 0, .slice none 0 0, .slice none 0 0] #[.slice F0 (d.acts.length + 1) f0, .slice F1 (d.subs.length + 1) f1, .slice F2 (d.roles.length + 1) f2, .slice F3 (d.objs.length + 1) f3, .slice F4 (d.grps.length + 1) f4, .slice F5 (d.mem.length + 1) f5, .slice F6 (d.inh.length + 1) f6, .slice F7 (d.par.length + 1) f7, .slice F8 (d.wit.length + 1) f8, .slice F9 (d.rules.length + 1) f9, .slice F10 (d.exc.length + 1) f10] _ (z28 _) rfl (by kernel_rfl) rfl (by simp [Value.oneCell']) rfl rfl ?_))
 have hf5 : Stays (W0.alloc (.cells #[.slice F0 (d.acts.length + 1) f0, .slice F1 (d.subs.length + 1) f1, .slice F2 (d.roles.length + 1) f2, .slice F3 (d.objs.length + 1) f3, .slice F4 (d.grps.length + 1) f4, .slice F5 (d.mem.length + 1) f5, .slice F6 (d.inh.length + 1) f6, .slice F7 (d.par.length + 1) f7, .slice F8 (d.wit.length + 1) f8, .slice F9 (d.rules.length + 1) f9, .slice F10 (d.exc.length + 1) f10] 28)) W0.heap.size #[.slice F0 (d.acts.length + 1) f0, .slice F1 (d.subs.length + 1) f1, .slice F2 (d.roles.length + 1) f2, .slice F3 (d.objs.length + 1) f3, .slice F4 (d.grps.length + 1) f4, .slice F5 (d.mem.length + 1) f5, .slice F6 (d.inh.length + 1) f6, .slice F7 (d.par.length + 1) f7, .slice F8 (d.wit.length + 1) f8, .slice F9 (d.rules.length + 1) f9, .slice F10 (d.exc.length + 1) f10] 28 := heap_alloc_new W0 _
 have hb5 := below_alloc (Below.refl _ W0) (.cells #[.slice F0 (d.acts.length + 1) f0, .slice F1 (d.subs.length + 1) f1, .slice F2 (d.roles.length + 1) f2, .slice F3 (d.objs.length + 1) f3, .slice F4 (d.grps.length + 1) f4, .slice F5 (d.mem.length + 1) f5, .slice F6 (d.inh.length + 1) f6, .slice F7 (d.par.length + 1) f7, .slice F8 (d.wit.length + 1) f8, .slice F9 (d.rules.length + 1) f9, .slice F10 (d.exc.length + 1) f10] 28)
 have hU : Uw w W0.heap.size #[.slice G0 d.acts.length h0, .slice G1 d.subs.length h1, .slice G2 d.roles.length h2, .slice G3 d.objs.length h3, .slice G4 d.grps.length h4, .slice G5 d.mem.length h5, .slice G6 d.inh.length h6, .slice G7 d.par.length h7, .slice G8 d.wit.length h8, .slice G9 d.rules.length h9, .slice G10 d.exc.length h10, .slice F0 (d.acts.length + 1) f0, .slice F1 (d.subs.length + 1) f1, .slice F2 (d.roles.length + 1) f2, .slice F3 (d.objs.length + 1) f3, .slice F4 (d.grps.length + 1) f4, .slice F5 (d.mem.length + 1) f5, .slice F6 (d.inh.length + 1) f6, .slice F7 (d.par.length + 1) f7, .slice F8 (d.wit.length + 1) f8, .slice F9 (d.rules.length + 1) f9, .slice F10 (d.exc.length + 1) f10, .slice AL d.rules.length cL] #[.slice A0 d.acts.length c0, .slice A1 d.subs.length c1, .slice A2 d.roles.length c2, .slice A3 d.objs.length c3, .slice A4 d.grps.length c4, .slice A5 d.mem.length c5, .slice A6 d.inh.length c6, .slice A7 d.par.length c7, .slice A8 d.wit.length c8, .slice A9 d.rules.length c9, .slice A10 d.exc.length c10] #[.slice F0 (d.acts.length + 1) f0, .slice F1 (d.subs.length + 1) f1, .slice F2 (d.roles.length + 1) f2, .slice F3 (d.objs.length + 1) f3, .slice F4 (d.grps.length + 1) f4, .slice F5 (d.mem.length + 1) f5, .slice F6 (d.inh.length + 1) f6, .slice F7 (d.par.length + 1) f7, .slice F8 (d.wit.length + 1) f8, .slice F9 (d.rules.length + 1) f9, .slice F10 (d.exc.length + 1) f10] (W0.alloc (.cells #[.slice F0 (d.acts.length + 1) f0, .slice F1 (d.subs.length + 1) f1, .slice F2 (d.roles.length + 1) f2, .slice F3 (d.objs.length + 1) f3, .slice F4 (d.grps.length + 1) f4, .slice F5 (d.mem.length + 1) f5, .slice F6 (d.inh.length + 1) f6, .slice F7 (d.par.length + 1) f7, .slice F8 (d.wit.length + 1) f8, .slice F9 (d.rules.length + 1) f9, .slice F10 (d.exc.length + 1) f10] 28)) := ⟨HR2.out.below hb5, HP2.out.below hb5, hf5, below_then HB2.out HB2.out.size hb5⟩
 clear HR2 HP2 HB2 HLD hf5 hb5
 obtain ⟨g5, hg5⟩ : ∃ g5, g5 = W0.heap.size := ⟨_, rfl⟩
 rw [← hg5] at hU ⊢
 clear hg5
 generalize W0.alloc (.cells #[.slice F0 (d.acts.length + 1) f0, .slice F1 (d.subs.length + 1) f1, .slice F2 (d.roles.length + 1) f2, .slice F3 (d.objs.length + 1) f3, .slice F4 (d.grps.length + 1) f4, .slice F5 (d.mem.length + 1) f5, .slice F6 (d.inh.length + 1) f6, .slice F7 (d.par.length + 1) f7, .slice F8 (d.wit.length + 1) f8, .slice F9 (d.rules.length + 1) f9, .slice F10 (d.exc.length + 1) f10] 28) = W1 at hU ⊢
 have HU := Aside0.mk hU
 clear hU
 have xf0 := HU.out.full.cell 0
 have xf2 := HU.out.full.cell 2
 have xf3 := HU.out.full.cell 3
 have xf4 := HU.out.full.cell 4
 have xp0 := HU.out.pol.cell 0
 have xp2 := HU.out.pol.cell 2
 have xp3 := HU.out.pol.cell 3
 have xp4 := HU.out.pol.cell 4
 simp only [List.getElem?_toArray, List.getElem?_cons_zero, List.getElem?_cons_succ] at xf0 xf2 xf3 xf4 xp0 xp2 xp3 xp4
 go_upto_region 4 with (go_at_call 19; first
  | ((with_reducible refine (long_go F0 A0 f0 c0 d.acts _ HD.out.acts (HR.out _ HU.out.below).x0 (HR.out _ HU.out.below).k0 (HP.out _ HU.out.below).h0 (HP.out _ HU.out.below).l0).mono ?_); rintro e w0 ⟨rfl, hb⟩; have HV0 := Aside0.mk (HU.out.move hb); clear hb xf0 xp0 xf2 xp2 xf3 xp3 xf4 xp4; have xf2 := HV0.out.full.cell 2; have xp2 := HV0.out.pol.cell 2; have xf3 := HV0.out.full.cell 3; have xp3 := HV0.out.pol.cell 3; have xf4 := HV0.out.full.cell 4; have xp4 := HV0.out.pol.cell 4; simp only [List.getElem?_toArray, List.getElem?_cons_zero, List.getElem?_cons_succ] at xf2 xp2 xf3 xp3 xf4 xp4)
  | ((with_reducible refine (long_go F2 A2 f2 c2 d.roles _ HD.out.roles (HR.out _ HV0.out.below).x2 (HR.out _ HV0.out.below).k2 (HP.out _ HV0.out.below).h2 (HP.out _ HV0.out.below).l2).mono ?_); rintro e w2 ⟨rfl, hb⟩; have HV1 := Aside0.mk (HV0.out.move hb); clear hb xf2 xp2 xf3 xp3 xf4 xp4; have xf3 := HV1.out.full.cell 3; have xp3 := HV1.out.pol.cell 3; have xf4 := HV1.out.full.cell 4; have xp4 := HV1.out.pol.cell 4; simp only [List.getElem?_toArray, List.getElem?_cons_zero, List.getElem?_cons_succ] at xf3 xp3 xf4 xp4)
  | ((with_reducible refine (long_go F3 A3 f3 c3 d.objs _ HD.out.objs (HR.out _ HV1.out.below).x3 (HR.out _ HV1.out.below).k3 (HP.out _ HV1.out.below).h3 (HP.out _ HV1.out.below).l3).mono ?_); rintro e w3 ⟨rfl, hb⟩; have HV2 := Aside0.mk (HV1.out.move hb); clear hb xf3 xp3 xf4 xp4; have xf4 := HV2.out.full.cell 4; have xp4 := HV2.out.pol.cell 4; simp only [List.getElem?_toArray, List.getElem?_cons_zero, List.getElem?_cons_succ] at xf4 xp4)
  | ((with_reducible refine (long_go F4 A4 f4 c4 d.grps _ HD.out.grps (HR.out _ HV2.out.below).x4 (HR.out _ HV2.out.below).k4 (HP.out _ HV2.out.below).h4 (HP.out _ HV2.out.below).l4).mono ?_); rintro e w4 ⟨rfl, hb⟩; have HV3 := Aside0.mk (HV2.out.move hb); clear hb xf4 xp4))
 have xf5 := HV3.out.full.cell 5
 have xf6 := HV3.out.full.cell 6
 have xf7 := HV3.out.full.cell 7
 have xf8 := HV3.out.full.cell 8
 have xp5 := HV3.out.pol.cell 5
 have xp6 := HV3.out.pol.cell 6
 have xp7 := HV3.out.pol.cell 7
 have xp8 := HV3.out.pol.cell 8
 simp only [List.getElem?_toArray, List.getElem?_cons_zero, List.getElem?_cons_succ] at xf5 xf6 xf7 xf8 xp5 xp6 xp7 xp8
 go_upto_region 6 with (go_at_call 20; first
  | ((with_reducible refine (pair_go F5 A5 f5 c5 d.mem _ HD.out.mem (HR.out _ HV3.out.below).x5 (HR.out _ HV3.out.below).k5 (HP.out _ HV3.out.below).h5 (HP.out _ HV3.out.below).l5).mono ?_); rintro e w5 ⟨rfl, hb⟩; have HW0 := Aside0.mk (HV3.out.move hb); clear hb xf5 xp5 xf6 xp6 xf7 xp7 xf8 xp8; have xf6 := HW0.out.full.cell 6; have xp6 := HW0.out.pol.cell 6; have xf7 := HW0.out.full.cell 7; have xp7 := HW0.out.pol.cell 7; have xf8 := HW0.out.full.cell 8; have xp8 := HW0.out.pol.cell 8; simp only [List.getElem?_toArray, List.getElem?_cons_zero, List.getElem?_cons_succ] at xf6 xp6 xf7 xp7 xf8 xp8)
  | ((with_reducible refine (pair_go F6 A6 f6 c6 d.inh _ HD.out.inh (HR.out _ HW0.out.below).x6 (HR.out _ HW0.out.below).k6 (HP.out _ HW0.out.below).h6 (HP.out _ HW0.out.below).l6).mono ?_); rintro e w6 ⟨rfl, hb⟩; have HW1 := Aside0.mk (HW0.out.move hb); clear hb xf6 xp6 xf7 xp7 xf8 xp8; have xf7 := HW1.out.full.cell 7; have xp7 := HW1.out.pol.cell 7; have xf8 := HW1.out.full.cell 8; have xp8 := HW1.out.pol.cell 8; simp only [List.getElem?_toArray, List.getElem?_cons_zero, List.getElem?_cons_succ] at xf7 xp7 xf8 xp8)
  | ((with_reducible refine (pair_go F7 A7 f7 c7 d.par _ HD.out.par (HR.out _ HW1.out.below).x7 (HR.out _ HW1.out.below).k7 (HP.out _ HW1.out.below).h7 (HP.out _ HW1.out.below).l7).mono ?_); rintro e w7 ⟨rfl, hb⟩; have HW2 := Aside0.mk (HW1.out.move hb); clear hb xf7 xp7 xf8 xp8; have xf8 := HW2.out.full.cell 8; have xp8 := HW2.out.pol.cell 8; simp only [List.getElem?_toArray, List.getElem?_cons_zero, List.getElem?_cons_succ] at xf8 xp8)
  | ((with_reducible refine (pair_go F8 A8 f8 c8 d.wit _ HD.out.wit (HR.out _ HW2.out.below).x8 (HR.out _ HW2.out.below).k8 (HP.out _ HW2.out.below).h8 (HP.out _ HW2.out.below).l8).mono ?_); rintro e w8 ⟨rfl, hb⟩; have HW3 := Aside0.mk (HW2.out.move hb); clear hb xf8 xp8))
 clear HU HV0 HV1 HV2 HV3 HW0 HW1 HW2
 have HU := HW3
 clear HW3
 have xp1 := HU.out.pol.cell 1
 simp only [List.getElem?_toArray, List.getElem?_cons_zero, List.getElem?_cons_succ] at xp1
 go_upto_region 8 with fail
 clear xp1
 go_loopw [7] (fun u7 wr => ∃ i : Nat, i ≤ d.subs.length ∧ u7 = .int .i64 i ∧ Aside0 (Uw w g5 #[.slice G0 d.acts.length h0, .slice G1 d.subs.length h1, .slice G2 d.roles.length h2, .slice G3 d.objs.length h3, .slice G4 d.grps.length h4, .slice G5 d.mem.length h5, .slice G6 d.inh.length h6, .slice G7 d.par.length h7, .slice G8 d.wit.length h8, .slice G9 d.rules.length h9, .slice G10 d.exc.length h10, .slice F0 (d.acts.length + 1) f0, .slice F1 (d.subs.length + 1) f1, .slice F2 (d.roles.length + 1) f2, .slice F3 (d.objs.length + 1) f3, .slice F4 (d.grps.length + 1) f4, .slice F5 (d.mem.length + 1) f5, .slice F6 (d.inh.length + 1) f6, .slice F7 (d.par.length + 1) f7, .slice F8 (d.wit.length + 1) f8, .slice F9 (d.rules.length + 1) f9, .slice F10 (d.exc.length + 1) f10, .slice AL d.rules.length cL] #[.slice A0 d.acts.length c0, .slice A1 d.subs.length c1, .slice A2 d.roles.length c2, .slice A3 d.objs.length c3, .slice A4 d.grps.length c4, .slice A5 d.mem.length c5, .slice A6 d.inh.length c6, .slice A7 d.par.length c7, .slice A8 d.wit.length c8, .slice A9 d.rules.length c9, .slice A10 d.exc.length c10] #[.slice F0 (d.acts.length + 1) f0, .slice F1 (d.subs.length + 1) f1, .slice F2 (d.roles.length + 1) f2, .slice F3 (d.objs.length + 1) f3, .slice F4 (d.grps.length + 1) f4, .slice F5 (d.mem.length + 1) f5, .slice F6 (d.inh.length + 1) f6, .slice F7 (d.par.length + 1) f7, .slice F8 (d.wit.length + 1) f8, .slice F9 (d.rules.length + 1) f9, .slice F10 (d.exc.length + 1) f10] wr)) (fun u7 _ => d.subs.length - (intOf u7).toNat)
 case atStart => exact ⟨0, by omega, rfl, HU⟩
 case round =>
  clear HU
  obtain ⟨i, hi, rfl, HU⟩ := hrel
  by_cases hlt : i < d.subs.length
  ·have hlt' : ((i : Int) < d.subs.length) := by omega
   have hlt2 : ((i : Int) < (d.subs.length : Int) + 1) := by omega
   obtain ⟨ad, hF1, hx0, hx1⟩ := at_T42 (show Kd.C k42 wr F1 (d.subs.length + 1) (d.subs ++ ([⟨sh, 0⟩] : List S42)) from (HR.out wr HU.out.below).x1) (i : Int) (by omega) (by omega)
   obtain ⟨bd, hA1, hy0, hy1⟩ := at_T42 (show Kd.C k42 wr A1 d.subs.length d.subs from (HP.out wr HU.out.below).h1) (i : Int) (by omega) (by omega)
   have hq1 : rd_T42 (d.subs ++ ([⟨sh, 0⟩] : List S42)) (i : Int) = d.subs[i] := by simp [rd_T42, List.getD_eq_getElem?_getD, List.getElem?_append_left hlt, hlt]
   have hq2 : rd_T42 d.subs (i : Int) = d.subs[i] := by simp [rd_T42, List.getD_eq_getElem?_getD, hlt]
   rw [hq1] at hx0 hx1
   rw [hq2] at hy0 hy1
   obtain ⟨q, hqq⟩ : ∃ q, q = d.subs[i] := ⟨_, rfl⟩
   rw [← hqq] at hx0 hx1 hy0 hy1
   simp only [Int.toNat_natCast] at hx0 hx1 hy0 hy1
   subst hF1; subst hA1
   have HX0 := Aside0.mk (show wr.drew.cell? _ = _ from hx0)
   have HX1 := Aside0.mk (show wr.drew.cell? _ = _ from hx1)
   have HY0 := Aside0.mk (show wr.drew.cell? _ = _ from hy0)
   have HY1 := Aside0.mk (show wr.drew.cell? _ = _ from hy1)
   clear hq1 hq2 hqq hx0 hx1 hy0 hy1
   go_upto_region 10 with fail
   refine start_ (n := 29) (S := fun w' => w'.cell? ⟨g5, 1, none⟩ = some (.slice (some ad) (d.subs.length + 1) f1) ∧ w'.cell? ⟨w.heap.size + 1, 1, none⟩ = some (.slice (some bd) d.subs.length c1) ∧ w'.cell? (ad.add (i * 2)) = some (.string q.f0) ∧ w'.cell? ⟨(ad.add (i * 2)).block, (ad.add (i * 2)).off + 1, none⟩ = some (.float .f64 q.f1) ∧ w'.cell? (bd.add (i * 2)) = some (.string q.f0) ∧ w'.cell? ⟨(bd.add (i * 2)).block, (bd.add (i * 2)).off + 1, none⟩ = some (.float .f64 q.f1)) (ds := []) #[false, false, false, false, false, false, false, false, false, false, false, false, false, false, false, false, false, false, false, false, false, false, false, false, false, false, false, false, false] (by kernel_rfl) rfl rfl ⟨HU.out.full.cell 1, HU.out.pol.cell 1, HX0.out, HX1.out, HY0.out, HY1.out⟩ (fun hHeld => ?_)
   refine pure_ (i := 0) (N := some 83) (v := ?_) (a' := ?_) #[true, false, false, false, false, false, false, false, false, false, false, false, false, false, false, false, false, false, false, false, false, false, false, false, false, false, false, false, false] rfl rfl (by kernel_rfl) (fun _ _ _ h => h) (Or.inl ⟨by rfl, ?_⟩) ?_ ?_
   rotate_left
   ·intro w'
    go_simp
    with_reducible rfl
   rotate_left
   ·simp only [Act.put, List.setIfInBounds_toArray, List.set_cons_zero, List.set_cons_succ]
    rfl
   refine take_ (i := 1) (N := some 84) (v := ?_) (a' := ?_) #[true, true, false, false, false, false, false, false, false, false, false, false, false, false, false, false, false, false, false, false, false, false, false, false, false, false, false, false, false] rfl rfl (by kernel_rfl) (fun _ _ _ h => h) (Or.inl ⟨by rfl, ?_⟩) hHeld ?_ ?_
   rotate_left
   ·rintro w' ⟨s0, s1, s2, s3, s4, s5⟩
    go_simp
    with_reducible rfl
   rotate_left
   ·simp only [Act.put, List.setIfInBounds_toArray, List.set_cons_zero, List.set_cons_succ]
    rfl
   refine pure_ (i := 2) (N := some 85) (v := ?_) (a' := ?_) #[true, true, true, false, false, false, false, false, false, false, false, false, false, false, false, false, false, false, false, false, false, false, false, false, false, false, false, false, false] rfl rfl (by kernel_rfl) (fun _ _ _ h => h) (Or.inl ⟨by rfl, ?_⟩) ?_ ?_
   rotate_left
   ·intro w'
    go_simp
    with_reducible rfl
   rotate_left
   ·simp only [Act.put, List.setIfInBounds_toArray, List.set_cons_zero, List.set_cons_succ]
    rfl
   refine pure_ (i := 3) (N := some 86) (v := ?_) (a' := ?_) #[true, true, true, true, false, false, false, false, false, false, false, false, false, false, false, false, false, false, false, false, false, false, false, false, false, false, false, false, false] rfl rfl (by kernel_rfl) (fun _ _ _ h => h) (Or.inl ⟨by rfl, ?_⟩) ?_ ?_
   rotate_left
   ·intro w'
    go_simp
    with_reducible rfl
   rotate_left
   ·simp only [Act.put, List.setIfInBounds_toArray, List.set_cons_zero, List.set_cons_succ]
    rfl
   refine pure_ (i := 4) (N := some 87) (v := ?_) (a' := ?_) #[true, true, true, true, true, false, false, false, false, false, false, false, false, false, false, false, false, false, false, false, false, false, false, false, false, false, false, false, false] rfl rfl (by kernel_rfl) (fun _ _ _ h => h) (Or.inl ⟨by rfl, ?_⟩) ?_ ?_
   rotate_left
   ·intro w'
    go_simp
    with_reducible rfl
   rotate_left
   ·simp only [Act.put, List.setIfInBounds_toArray, List.set_cons_zero, List.set_cons_succ]
    rfl
   refine take_ (i := 5) (N := some 88) (v := ?_) (a' := ?_) #[true, true, true, true, true, true, false, false, false, false, false, false, false, false, false, false, false, false, false, false, false, false, false, false, false, false, false, false, false] rfl rfl (by kernel_rfl) (fun _ _ _ h => h) (Or.inl ⟨by rfl, ?_⟩) hHeld ?_ ?_
   rotate_left
   ·rintro w' ⟨s0, s1, s2, s3, s4, s5⟩
    go_simp
    with_reducible rfl
   rotate_left
   ·simp only [Act.put, List.setIfInBounds_toArray, List.set_cons_zero, List.set_cons_succ]
    rfl
   refine pure_ (i := 6) (N := some 89) (v := ?_) (a' := ?_) #[true, true, true, true, true, true, true, false, false, false, false, false, false, false, false, false, false, false, false, false, false, false, false, false, false, false, false, false, false] rfl rfl (by kernel_rfl) (fun _ _ _ h => h) (Or.inl ⟨by rfl, ?_⟩) ?_ ?_
   rotate_left
   ·intro w'
    go_simp
    with_reducible rfl
   rotate_left
   ·simp only [Act.put, List.setIfInBounds_toArray, List.set_cons_zero, List.set_cons_succ]
    rfl
   refine take_ (i := 7) (N := some 90) (v := ?_) (a' := ?_) #[true, true, true, true, true, true, true, true, false, false, false, false, false, false, false, false, false, false, false, false, false, false, false, false, false, false, false, false, false] rfl rfl (by kernel_rfl) (fun _ _ _ h => h) (Or.inl ⟨by rfl, ?_⟩) hHeld ?_ ?_
   rotate_left
   ·rintro w' ⟨s0, s1, s2, s3, s4, s5⟩
    go_simp
    with_reducible rfl
   rotate_left
   ·simp only [Act.put, List.setIfInBounds_toArray, List.set_cons_zero, List.set_cons_succ]
    rfl
   refine pure_ (i := 8) (N := some 91) (v := ?_) (a' := ?_) #[true, true, true, true, true, true, true, true, true, false, false, false, false, false, false, false, false, false, false, false, false, false, false, false, false, false, false, false, false] rfl rfl (by kernel_rfl) (fun _ _ _ h => h) (Or.inl ⟨by rfl, ?_⟩) ?_ ?_
   rotate_left
   ·intro w'
    go_simp
    with_reducible rfl
   rotate_left
   ·simp only [Act.put, List.setIfInBounds_toArray, List.set_cons_zero, List.set_cons_succ]
    rfl
   refine pure_ (i := 9) (N := some 92) (v := ?_) (a' := ?_) #[true, true, true, true, true, true, true, true, true, true, false, false, false, false, false, false, false, false, false, false, false, false, false, false, false, false, false, false, false] rfl rfl (by kernel_rfl) (fun _ _ _ h => h) (Or.inl ⟨by rfl, ?_⟩) ?_ ?_
   rotate_left
   ·intro w'
    go_simp
    with_reducible rfl
   rotate_left
   ·simp only [Act.put, List.setIfInBounds_toArray, List.set_cons_zero, List.set_cons_succ]
    rfl
   refine pure_ (i := 10) (N := some 93) (v := ?_) (a' := ?_) #[true, true, true, true, true, true, true, true, true, true, true, false, false, false, false, false, false, false, false, false, false, false, false, false, false, false, false, false, false] rfl rfl (by kernel_rfl) (fun _ _ _ h => h) (Or.inl ⟨by rfl, ?_⟩) ?_ ?_
   rotate_left
   ·intro w'
    go_simp
    with_reducible rfl
   rotate_left
   ·simp only [Act.put, List.setIfInBounds_toArray, List.set_cons_zero, List.set_cons_succ]
    rfl
   refine take_ (i := 11) (N := some 94) (v := ?_) (a' := ?_) #[true, true, true, true, true, true, true, true, true, true, true, true, false, false, false, false, false, false, false, false, false, false, false, false, false, false, false, false, false] rfl rfl (by kernel_rfl) (fun _ _ _ h => h) (Or.inl ⟨by rfl, ?_⟩) hHeld ?_ ?_
   rotate_left
   ·rintro w' ⟨s0, s1, s2, s3, s4, s5⟩
    go_simp
    with_reducible rfl
   rotate_left
   ·simp only [Act.put, List.setIfInBounds_toArray, List.set_cons_zero, List.set_cons_succ]
    rfl
   refine pure_ (i := 12) (N := some 95) (v := ?_) (a' := ?_) #[true, true, true, true, true, true, true, true, true, true, true, true, true, false, false, false, false, false, false, false, false, false, false, false, false, false, false, false, false] rfl rfl (by kernel_rfl) (fun _ _ _ h => h) (Or.inl ⟨by rfl, ?_⟩) ?_ ?_
   rotate_left
   ·intro w'
    go_simp
    with_reducible rfl
   rotate_left
   ·simp only [Act.put, List.setIfInBounds_toArray, List.set_cons_zero, List.set_cons_succ]
    rfl
   refine pure_ (i := 13) (N := some 96) (v := ?_) (a' := ?_) #[true, true, true, true, true, true, true, true, true, true, true, true, true, true, false, false, false, false, false, false, false, false, false, false, false, false, false, false, false] rfl rfl (by kernel_rfl) (fun _ _ _ h => h) (Or.inl ⟨by rfl, ?_⟩) ?_ ?_
   rotate_left
   ·intro w'
    go_simp
    with_reducible rfl
   rotate_left
   ·simp only [Act.put, List.setIfInBounds_toArray, List.set_cons_zero, List.set_cons_succ]
    rfl
   refine pure_ (i := 14) (N := some 97) (v := ?_) (a' := ?_) #[true, true, true, true, true, true, true, true, true, true, true, true, true, true, true, false, false, false, false, false, false, false, false, false, false, false, false, false, false] rfl rfl (by kernel_rfl) (fun _ _ _ h => h) (Or.inl ⟨by rfl, ?_⟩) ?_ ?_
   rotate_left
   ·intro w'
    go_simp
    with_reducible rfl
   rotate_left
   ·simp only [Act.put, List.setIfInBounds_toArray, List.set_cons_zero, List.set_cons_succ]
    rfl
   refine take_ (i := 15) (N := some 98) (v := ?_) (a' := ?_) #[true, true, true, true, true, true, true, true, true, true, true, true, true, true, true, true, false, false, false, false, false, false, false, false, false, false, false, false, false] rfl rfl (by kernel_rfl) (fun _ _ _ h => h) (Or.inl ⟨by rfl, ?_⟩) hHeld ?_ ?_
   rotate_left
   ·rintro w' ⟨s0, s1, s2, s3, s4, s5⟩
    go_simp
    with_reducible rfl
   rotate_left
   ·simp only [Act.put, List.setIfInBounds_toArray, List.set_cons_zero, List.set_cons_succ]
    rfl
   refine pure_ (i := 16) (N := some 99) (v := ?_) (a' := ?_) #[true, true, true, true, true, true, true, true, true, true, true, true, true, true, true, true, true, false, false, false, false, false, false, false, false, false, false, false, false] rfl rfl (by kernel_rfl) (fun _ _ _ h => h) (Or.inl ⟨by rfl, ?_⟩) ?_ ?_
   rotate_left
   ·intro w'
    go_simp
    with_reducible rfl
   rotate_left
   ·simp only [Act.put, List.setIfInBounds_toArray, List.set_cons_zero, List.set_cons_succ]
    rfl
   refine pure_ (i := 17) (N := some 100) (v := ?_) (a' := ?_) #[true, true, true, true, true, true, true, true, true, true, true, true, true, true, true, true, true, true, false, false, false, false, false, false, false, false, false, false, false] rfl rfl (by kernel_rfl) (fun _ _ _ h => h) (Or.inl ⟨by rfl, ?_⟩) ?_ ?_
   rotate_left
   ·intro w'
    go_simp
    with_reducible rfl
   rotate_left
   ·simp only [Act.put, List.setIfInBounds_toArray, List.set_cons_zero, List.set_cons_succ]
    rfl
   refine pure_ (i := 18) (N := some 101) (v := ?_) (a' := ?_) #[true, true, true, true, true, true, true, true, true, true, true, true, true, true, true, true, true, true, true, false, false, false, false, false, false, false, false, false, false] rfl rfl (by kernel_rfl) (fun _ _ _ h => h) (Or.inl ⟨by rfl, ?_⟩) ?_ ?_
   rotate_left
   ·intro w'
    go_simp
    with_reducible rfl
   rotate_left
   ·simp only [Act.put, List.setIfInBounds_toArray, List.set_cons_zero, List.set_cons_succ]
    rfl
   refine take_ (i := 19) (N := some 102) (v := ?_) (a' := ?_) #[true, true, true, true, true, true, true, true, true, true, true, true, true, true, true, true, true, true, true, true, false, false, false, false, false, false, false, false, false] rfl rfl (by kernel_rfl) (fun _ _ _ h => h) (Or.inl ⟨by rfl, ?_⟩) hHeld ?_ ?_
   rotate_left
   ·rintro w' ⟨s0, s1, s2, s3, s4, s5⟩
    go_simp
    with_reducible rfl
   rotate_left
   ·simp only [Act.put, List.setIfInBounds_toArray, List.set_cons_zero, List.set_cons_succ]
    rfl
   refine pure_ (i := 20) (N := some 103) (v := ?_) (a' := ?_) #[true, true, true, true, true, true, true, true, true, true, true, true, true, true, true, true, true, true, true, true, true, false, false, false, false, false, false, false, false] rfl rfl (by kernel_rfl) (fun _ _ _ h => h) (Or.inl ⟨by rfl, ?_⟩) ?_ ?_
   rotate_left
   ·intro w'
    go_simp
    with_reducible rfl
   rotate_left
   ·simp only [Act.put, List.setIfInBounds_toArray, List.set_cons_zero, List.set_cons_succ]
    rfl
   refine take_ (i := 21) (N := some 104) (v := ?_) (a' := ?_) #[true, true, true, true, true, true, true, true, true, true, true, true, true, true, true, true, true, true, true, true, true, true, false, false, false, false, false, false, false] rfl rfl (by kernel_rfl) (fun _ _ _ h => h) (Or.inl ⟨by rfl, ?_⟩) hHeld ?_ ?_
   rotate_left
   ·rintro w' ⟨s0, s1, s2, s3, s4, s5⟩
    go_simp
    with_reducible rfl
   rotate_left
   ·simp only [Act.put, List.setIfInBounds_toArray, List.set_cons_zero, List.set_cons_succ]
    rfl
   refine pure_ (i := 22) (N := some 105) (v := ?_) (a' := ?_) #[true, true, true, true, true, true, true, true, true, true, true, true, true, true, true, true, true, true, true, true, true, true, true, false, false, false, false, false, false] rfl rfl (by kernel_rfl) (fun _ _ _ h => h) (Or.inl ⟨by rfl, ?_⟩) ?_ ?_
   rotate_left
   ·intro w'
    go_simp
    with_reducible rfl
   rotate_left
   ·simp only [Act.put, List.setIfInBounds_toArray, List.set_cons_zero, List.set_cons_succ]
    rfl
   refine pure_ (i := 23) (N := some 106) (v := ?_) (a' := ?_) #[true, true, true, true, true, true, true, true, true, true, true, true, true, true, true, true, true, true, true, true, true, true, true, true, false, false, false, false, false] rfl rfl (by kernel_rfl) (fun _ _ _ h => h) (Or.inl ⟨by rfl, ?_⟩) ?_ ?_
   rotate_left
   ·intro w'
    go_simp
    with_reducible rfl
   rotate_left
   ·simp only [Act.put, List.setIfInBounds_toArray, List.set_cons_zero, List.set_cons_succ]
    rfl
   refine pure_ (i := 24) (N := some 107) (v := ?_) (a' := ?_) #[true, true, true, true, true, true, true, true, true, true, true, true, true, true, true, true, true, true, true, true, true, true, true, true, true, false, false, false, false] rfl rfl (by kernel_rfl) (fun _ _ _ h => h) (Or.inl ⟨by rfl, ?_⟩) ?_ ?_
   rotate_left
   ·intro w'
    go_simp
    with_reducible rfl
   rotate_left
   ·simp only [Act.put, List.setIfInBounds_toArray, List.set_cons_zero, List.set_cons_succ]
    rfl
   refine take_ (i := 25) (N := some 108) (v := ?_) (a' := ?_) #[true, true, true, true, true, true, true, true, true, true, true, true, true, true, true, true, true, true, true, true, true, true, true, true, true, true, false, false, false] rfl rfl (by kernel_rfl) (fun _ _ _ h => h) (Or.inl ⟨by rfl, ?_⟩) hHeld ?_ ?_
   rotate_left
   ·rintro w' ⟨s0, s1, s2, s3, s4, s5⟩
    go_simp
    with_reducible rfl
   rotate_left
   ·simp only [Act.put, List.setIfInBounds_toArray, List.set_cons_zero, List.set_cons_succ]
    rfl
   refine one_ (i := 26) (N := some 109) #[true, true, true, true, true, true, true, true, true, true, true, true, true, true, true, true, true, true, true, true, true, true, true, true, true, true, true, false, false] rfl rfl (by kernel_rfl) (by decide) (fun K hK => ?_)
   refine goes_ Try.func21 (by kernel_rfl) rfl #[.float .f64 q.f1, .float .f64 q.f1] (by rfl) rfl rfl (by (try simp only [List.map_toArray, List.map_cons, List.map_nil]); first | done | rfl) ?_
   refine (equals_go q.f1 _).mono ?_
   rintro e W1 ⟨rfl, hb1⟩
   refine ⟨_, rfl, ?_⟩
   have hb2 : Below wr.heap.size wr W1 := below_then (below_drew (Below.refl wr.heap.size wr)) (Nat.le_refl _) hb1
   have HU1 := Aside0.mk (HU.out.move hb2)
   have hh := And.intro (HU1.out.full.cell 1) (And.intro (HU1.out.pol.cell 1) (And.intro (pw_cell_below hb2 HX0.out) (And.intro (pw_cell_below hb2 HX1.out) (And.intro (pw_cell_below hb2 HY0.out) (pw_cell_below hb2 HY1.out)))))
   clear hb1 hb2
   refine hK.out _ _ hh (fun hHeld => ?_)
   clear hK K hh
   refine norm_ (a' := ?_) ?_ ?_
   rotate_left
   ·show Act.put _ (some 109) _ = _
    simp only [Act.put, List.setIfInBounds_toArray, List.set_cons_zero, List.set_cons_succ]
    rfl
   refine pure_ (i := 27) (N := some 110) (v := ?_) (a' := ?_) #[true, true, true, true, true, true, true, true, true, true, true, true, true, true, true, true, true, true, true, true, true, true, true, true, true, true, true, true, false] rfl rfl (by kernel_rfl) (fun _ _ _ h => h) (Or.inl ⟨by rfl, ?_⟩) ?_ ?_
   rotate_left
   ·intro w'
    go_simp
    with_reducible rfl
   rotate_left
   ·simp only [Act.put, List.setIfInBounds_toArray, List.set_cons_zero, List.set_cons_succ]
    rfl
   refine pure_ (i := 28) (N := some 111) (v := ?_) (a' := ?_) #[true, true, true, true, true, true, true, true, true, true, true, true, true, true, true, true, true, true, true, true, true, true, true, true, true, true, true, true, true] rfl rfl (by kernel_rfl) (fun _ _ _ h => h) (Or.inl ⟨by rfl, ?_⟩) ?_ ?_
   rotate_left
   ·intro w'
    go_simp
    with_reducible rfl
   rotate_left
   ·simp only [Act.put, List.setIfInBounds_toArray, List.set_cons_zero, List.set_cons_succ]
    rfl
   refine done_ (by kernel_rfl) ?_
   clear hHeld
   go_wp2
   exact round_end hlt (by have := HD.out.subs; omega) (fun hq => ⟨i + 1, by omega, hq, HU1⟩)
  ·have hil : i = d.subs.length := by omega
   have hlt' : ¬ ((i : Int) < d.subs.length) := by omega
   clear hlt hi
   have xp10 := HU.out.pol.cell 10
   simp only [List.getElem?_toArray, List.getElem?_cons_zero, List.getElem?_cons_succ] at xp10
   go_upto_region 13 with fail
   clear xp10 hil hlt'
   go_loopw [8] (fun u8 wr => ∃ i : Nat, i ≤ d.exc.length ∧ u8 = .int .i64 i ∧ Aside0 (Uw w g5 #[.slice G0 d.acts.length h0, .slice G1 d.subs.length h1, .slice G2 d.roles.length h2, .slice G3 d.objs.length h3, .slice G4 d.grps.length h4, .slice G5 d.mem.length h5, .slice G6 d.inh.length h6, .slice G7 d.par.length h7, .slice G8 d.wit.length h8, .slice G9 d.rules.length h9, .slice G10 d.exc.length h10, .slice F0 (d.acts.length + 1) f0, .slice F1 (d.subs.length + 1) f1, .slice F2 (d.roles.length + 1) f2, .slice F3 (d.objs.length + 1) f3, .slice F4 (d.grps.length + 1) f4, .slice F5 (d.mem.length + 1) f5, .slice F6 (d.inh.length + 1) f6, .slice F7 (d.par.length + 1) f7, .slice F8 (d.wit.length + 1) f8, .slice F9 (d.rules.length + 1) f9, .slice F10 (d.exc.length + 1) f10, .slice AL d.rules.length cL] #[.slice A0 d.acts.length c0, .slice A1 d.subs.length c1, .slice A2 d.roles.length c2, .slice A3 d.objs.length c3, .slice A4 d.grps.length c4, .slice A5 d.mem.length c5, .slice A6 d.inh.length c6, .slice A7 d.par.length c7, .slice A8 d.wit.length c8, .slice A9 d.rules.length c9, .slice A10 d.exc.length c10] #[.slice F0 (d.acts.length + 1) f0, .slice F1 (d.subs.length + 1) f1, .slice F2 (d.roles.length + 1) f2, .slice F3 (d.objs.length + 1) f3, .slice F4 (d.grps.length + 1) f4, .slice F5 (d.mem.length + 1) f5, .slice F6 (d.inh.length + 1) f6, .slice F7 (d.par.length + 1) f7, .slice F8 (d.wit.length + 1) f8, .slice F9 (d.rules.length + 1) f9, .slice F10 (d.exc.length + 1) f10] wr)) (fun u8 _ => d.exc.length - (intOf u8).toNat)
   case atStart => exact ⟨0, by omega, rfl, HU⟩
   case round =>
    clear HU
    obtain ⟨i, hi, rfl, HU⟩ := hrel
    have xp10 := HU.out.pol.cell 10
    simp only [List.getElem?_toArray, List.getElem?_cons_zero, List.getElem?_cons_succ] at xp10
    by_cases hlt : i < d.exc.length
    ·have hlt' : ((i : Int) < d.exc.length) := by omega
     have hlt2 : ((i : Int) < (d.exc.length : Int) + 1) := by omega
     obtain ⟨ad, hF1, hx0, hx1, hx2⟩ := at_T53 (show Kd.C k53 wr F10 (d.exc.length + 1) (d.exc ++ ([⟨sh, e0, e0⟩] : List S53)) from (HR.out wr HU.out.below).x10) (i : Int) (by omega) (by omega)
     obtain ⟨bd, hA1, hy0, hy1, hy2⟩ := at_T53 (show Kd.C k53 wr A10 d.exc.length d.exc from (HP.out wr HU.out.below).h10) (i : Int) (by omega) (by omega)
     have hq1 : rd_T53 (d.exc ++ ([⟨sh, e0, e0⟩] : List S53)) (i : Int) = d.exc[i] := by simp [rd_T53, List.getD_eq_getElem?_getD, List.getElem?_append_left hlt, hlt]
     have hq2 : rd_T53 d.exc (i : Int) = d.exc[i] := by simp [rd_T53, List.getD_eq_getElem?_getD, hlt]
     rw [hq1] at hx0 hx1 hx2
     rw [hq2] at hy0 hy1 hy2
     obtain ⟨q, hqq⟩ : ∃ q, q = d.exc[i] := ⟨_, rfl⟩
     rw [← hqq] at hx0 hx1 hx2 hy0 hy1 hy2
     simp only [Int.toNat_natCast] at hx0 hx1 hx2 hy0 hy1 hy2
     subst hF1; subst hA1
     have HX0 := Aside0.mk (show wr.drew.cell? _ = _ from hx0)
     have HX1 := Aside0.mk (show wr.drew.cell? _ = _ from hx1)
     have HX2 := Aside0.mk (show wr.drew.cell? _ = _ from hx2)
     have HY0 := Aside0.mk (show wr.drew.cell? _ = _ from hy0)
     have HY1 := Aside0.mk (show wr.drew.cell? _ = _ from hy1)
     have HY2 := Aside0.mk (show wr.drew.cell? _ = _ from hy2)
     clear hq1 hq2 hqq hx0 hx1 hx2 hy0 hy1 hy2
     go_upto_region 15 with fail
     refine start_ (n := 11) (S := fun w' => w'.cell? ⟨g5, 10, none⟩ = some (.slice (some ad) (d.exc.length + 1) f10) ∧ w'.cell? ⟨w.heap.size + 1, 10, none⟩ = some (.slice (some bd) d.exc.length c10) ∧ w'.cell? (ad.add (i * 3)) = some (.string q.f0) ∧ w'.cell? ⟨(ad.add (i * 3)).block, (ad.add (i * 3)).off + 1, none⟩ = some (.string q.f1) ∧ w'.cell? ⟨(ad.add (i * 3)).block, (ad.add (i * 3)).off + 2, none⟩ = some (.string q.f2) ∧ w'.cell? (bd.add (i * 3)) = some (.string q.f0) ∧ w'.cell? ⟨(bd.add (i * 3)).block, (bd.add (i * 3)).off + 1, none⟩ = some (.string q.f1) ∧ w'.cell? ⟨(bd.add (i * 3)).block, (bd.add (i * 3)).off + 2, none⟩ = some (.string q.f2)) (ds := []) #[false, false, false, false, false, false, false, false, false, false, false] (by kernel_rfl) rfl rfl ⟨HU.out.full.cell 10, HU.out.pol.cell 10, HX0.out, HX1.out, HX2.out, HY0.out, HY1.out, HY2.out⟩ (fun hHeld => ?_)
     refine pure_ (i := 0) (N := some 119) (v := ?_) (a' := ?_) #[true, false, false, false, false, false, false, false, false, false, false] rfl rfl (by kernel_rfl) (fun _ _ _ h => h) (Or.inl ⟨by rfl, ?_⟩) ?_ ?_
     rotate_left
     ·intro w'
      go_simp
      with_reducible rfl
     rotate_left
     ·simp only [Act.put, List.setIfInBounds_toArray, List.set_cons_zero, List.set_cons_succ]
      rfl
     refine take_ (i := 1) (N := some 120) (v := ?_) (a' := ?_) #[true, true, false, false, false, false, false, false, false, false, false] rfl rfl (by kernel_rfl) (fun _ _ _ h => h) (Or.inl ⟨by rfl, ?_⟩) hHeld ?_ ?_
     rotate_left
     ·rintro w' ⟨s0, s1, s2, s3, s4, s5, s6, s7⟩
      go_simp
      with_reducible rfl
     rotate_left
     ·simp only [Act.put, List.setIfInBounds_toArray, List.set_cons_zero, List.set_cons_succ]
      rfl
     refine pure_ (i := 2) (N := some 121) (v := ?_) (a' := ?_) #[true, true, true, false, false, false, false, false, false, false, false] rfl rfl (by kernel_rfl) (fun _ _ _ h => h) (Or.inl ⟨by rfl, ?_⟩) ?_ ?_
     rotate_left
     ·intro w'
      go_simp
      with_reducible rfl
     rotate_left
     ·simp only [Act.put, List.setIfInBounds_toArray, List.set_cons_zero, List.set_cons_succ]
      rfl
     refine pure_ (i := 3) (N := some 122) (v := ?_) (a' := ?_) #[true, true, true, true, false, false, false, false, false, false, false] rfl rfl (by kernel_rfl) (fun _ _ _ h => h) (Or.inl ⟨by rfl, ?_⟩) ?_ ?_
     rotate_left
     ·intro w'
      go_simp
      with_reducible rfl
     rotate_left
     ·simp only [Act.put, List.setIfInBounds_toArray, List.set_cons_zero, List.set_cons_succ]
      rfl
     refine take_ (i := 4) (N := some 123) (v := ?_) (a' := ?_) #[true, true, true, true, true, false, false, false, false, false, false] rfl rfl (by kernel_rfl) (fun _ _ _ h => h) (Or.inl ⟨by rfl, ?_⟩) hHeld ?_ ?_
     rotate_left
     ·rintro w' ⟨s0, s1, s2, s3, s4, s5, s6, s7⟩
      go_simp
      with_reducible rfl
     rotate_left
     ·simp only [Act.put, List.setIfInBounds_toArray, List.set_cons_zero, List.set_cons_succ]
      rfl
     refine pure_ (i := 5) (N := some 124) (v := ?_) (a' := ?_) #[true, true, true, true, true, true, false, false, false, false, false] rfl rfl (by kernel_rfl) (fun _ _ _ h => h) (Or.inl ⟨by rfl, ?_⟩) ?_ ?_
     rotate_left
     ·intro w'
      go_simp
      with_reducible rfl
     rotate_left
     ·simp only [Act.put, List.setIfInBounds_toArray, List.set_cons_zero, List.set_cons_succ]
      rfl
     refine take_ (i := 6) (N := some 125) (v := ?_) (a' := ?_) #[true, true, true, true, true, true, true, false, false, false, false] rfl rfl (by kernel_rfl) (fun _ _ _ h => h) (Or.inl ⟨by rfl, ?_⟩) hHeld ?_ ?_
     rotate_left
     ·rintro w' ⟨s0, s1, s2, s3, s4, s5, s6, s7⟩
      go_simp
      with_reducible rfl
     rotate_left
     ·simp only [Act.put, List.setIfInBounds_toArray, List.set_cons_zero, List.set_cons_succ]
      rfl
     refine pure_ (i := 7) (N := some 126) (v := ?_) (a' := ?_) #[true, true, true, true, true, true, true, true, false, false, false] rfl rfl (by kernel_rfl) (fun _ _ _ h => h) (Or.inl ⟨by rfl, ?_⟩) ?_ ?_
     rotate_left
     ·intro w'
      go_simp
      with_reducible rfl
     rotate_left
     ·simp only [Act.put, List.setIfInBounds_toArray, List.set_cons_zero, List.set_cons_succ]
      rfl
     refine pure_ (i := 8) (N := some 127) (v := ?_) (a' := ?_) #[true, true, true, true, true, true, true, true, true, false, false] rfl rfl (by kernel_rfl) (fun _ _ _ h => h) (Or.inl ⟨by rfl, ?_⟩) ?_ ?_
     rotate_left
     ·intro w'
      go_simp
      with_reducible rfl
     rotate_left
     ·simp only [Act.put, List.setIfInBounds_toArray, List.set_cons_zero, List.set_cons_succ]
      rfl
     refine take_ (i := 9) (N := some 128) (v := ?_) (a' := ?_) #[true, true, true, true, true, true, true, true, true, true, false] rfl rfl (by kernel_rfl) (fun _ _ _ h => h) (Or.inl ⟨by rfl, ?_⟩) hHeld ?_ ?_
     rotate_left
     ·rintro w' ⟨s0, s1, s2, s3, s4, s5, s6, s7⟩
      go_simp
      with_reducible rfl
     rotate_left
     ·simp only [Act.put, List.setIfInBounds_toArray, List.set_cons_zero, List.set_cons_succ]
      rfl
     refine pure_ (i := 10) (N := some 129) (v := ?_) (a' := ?_) #[true, true, true, true, true, true, true, true, true, true, true] rfl rfl (by kernel_rfl) (fun _ _ _ h => h) (Or.inl ⟨by rfl, ?_⟩) ?_ ?_
     rotate_left
     ·intro w'
      go_simp
      with_reducible rfl
     rotate_left
     ·simp only [Act.put, List.setIfInBounds_toArray, List.set_cons_zero, List.set_cons_succ]
      rfl
     refine done_ (by kernel_rfl) ?_
     clear hHeld
     have HU1 := Aside0.mk (HU.out.move (below_drew (Below.refl wr.heap.size wr)))
     go_wp2
     exact round_end hlt (by have := HD.out.exc; omega) (fun hq => ⟨i + 1, by omega, hq, HU1⟩)
    ·have hil : i = d.exc.length := by omega
     have hlt' : ¬ ((i : Int) < d.exc.length) := by omega
     clear hlt hi
     go_upto_region 17 with fail
     clear xp10 hil hlt'
     have xf1 := HU.out.full.cell 1
     have xf10 := HU.out.full.cell 10
     have xp10 := HU.out.pol.cell 10
     simp only [List.getElem?_toArray, List.getElem?_cons_zero, List.getElem?_cons_succ] at xf1 xf10 xp10
     obtain ⟨aF1, hF1, hx0, hx1⟩ := at_T42 (show Kd.C k42 wr F1 (d.subs.length + 1) (d.subs ++ ([⟨sh, 0⟩] : List S42)) from (HR.out wr HU.out.below).x1) (d.subs.length : Int) (by omega) (by omega)
     obtain ⟨aF10, hF10, hy0, hy1, hy2⟩ := at_T53 (show Kd.C k53 wr F10 (d.exc.length + 1) (d.exc ++ ([⟨sh, e0, e0⟩] : List S53)) from (HR.out wr HU.out.below).x10) (d.exc.length : Int) (by omega) (by omega)
     have hq1 : rd_T42 (d.subs ++ ([⟨sh, 0⟩] : List S42)) (d.subs.length : Int) = ⟨sh, 0⟩ := by simp [rd_T42, List.getD_eq_getElem?_getD]
     have hq2 : rd_T53 (d.exc ++ ([⟨sh, e0, e0⟩] : List S53)) (d.exc.length : Int) = ⟨sh, e0, e0⟩ := by simp [rd_T53, List.getD_eq_getElem?_getD]
     rw [hq1] at hx0 hx1
     rw [hq2] at hy0 hy1 hy2
     simp only [Int.toNat_natCast] at hx0 hx1 hy0 hy1 hy2
     subst hF1; subst hF10
     have hl1 : ((d.subs.length : Int) < (d.subs.length : Int) + 1) := by omega
     have hl2 : ((d.exc.length : Int) < (d.exc.length : Int) + 1) := by omega
     have hneq : ∀ w : World, (binOp .neq 42 (.agg #[.string ⟨#[35]⟩, .float .f64 0]) (.agg #[.string ⟨#[35]⟩, .float .f64 0])).run Try.prog w = .ok (.bool false) w := fun w => by kernel_rfl
     clear hq1 hq2
     go_upto_region 20 with fail
     clear hx0 hx1 hy0 hy1 hy2 hl1 hl2 hneq xf1 xf10 xp10
     go_loopw [9] (fun u9 wr => ∃ i : Nat, i ≤ d.rules.length ∧ u9 = .int .i64 i ∧ Aside0 (Uw w g5 #[.slice G0 d.acts.length h0, .slice G1 d.subs.length h1, .slice G2 d.roles.length h2, .slice G3 d.objs.length h3, .slice G4 d.grps.length h4, .slice G5 d.mem.length h5, .slice G6 d.inh.length h6, .slice G7 d.par.length h7, .slice G8 d.wit.length h8, .slice G9 d.rules.length h9, .slice G10 d.exc.length h10, .slice F0 (d.acts.length + 1) f0, .slice (some aF1) (d.subs.length + 1) f1, .slice F2 (d.roles.length + 1) f2, .slice F3 (d.objs.length + 1) f3, .slice F4 (d.grps.length + 1) f4, .slice F5 (d.mem.length + 1) f5, .slice F6 (d.inh.length + 1) f6, .slice F7 (d.par.length + 1) f7, .slice F8 (d.wit.length + 1) f8, .slice F9 (d.rules.length + 1) f9, .slice (some aF10) (d.exc.length + 1) f10, .slice AL d.rules.length cL] #[.slice A0 d.acts.length c0, .slice A1 d.subs.length c1, .slice A2 d.roles.length c2, .slice A3 d.objs.length c3, .slice A4 d.grps.length c4, .slice A5 d.mem.length c5, .slice A6 d.inh.length c6, .slice A7 d.par.length c7, .slice A8 d.wit.length c8, .slice A9 d.rules.length c9, .slice A10 d.exc.length c10] #[.slice F0 (d.acts.length + 1) f0, .slice (some aF1) (d.subs.length + 1) f1, .slice F2 (d.roles.length + 1) f2, .slice F3 (d.objs.length + 1) f3, .slice F4 (d.grps.length + 1) f4, .slice F5 (d.mem.length + 1) f5, .slice F6 (d.inh.length + 1) f6, .slice F7 (d.par.length + 1) f7, .slice F8 (d.wit.length + 1) f8, .slice F9 (d.rules.length + 1) f9, .slice (some aF10) (d.exc.length + 1) f10] wr)) (fun u9 _ => d.rules.length - (intOf u9).toNat)
     case atStart => exact ⟨0, by omega, rfl, HU⟩
     case round =>
      clear HU
      obtain ⟨i, hi, rfl, HU⟩ := hrel
      have xp9 := HU.out.pol.cell 9
      simp only [List.getElem?_toArray, List.getElem?_cons_zero, List.getElem?_cons_succ] at xp9
      by_cases hlt : i < d.rules.length
      ·have hlt' : ((i : Int) < d.rules.length) := by omega
       have hlt2 : ((i : Int) < (d.rules.length : Int) + 1) := by omega
       obtain ⟨ad, Ra, ra, hF9, x0, x1, x2, x3, x4, x5, hka, hca⟩ := at_T51 (show Kd.C k51 wr F9 (d.rules.length + 1) (d.rules ++ ([⟨false, sh, e0, [], 0, 0⟩] : List S51)) from (HR.out wr HU.out.below).x9) (i : Int) (by omega) (by omega)
       obtain ⟨bd, Rb, rb, hA9, y0, y1, y2, y3, y4, y5, hkb, hcb⟩ := at_T51 (show Kd.C k51 wr A9 d.rules.length d.rules from (HP.out wr HU.out.below).h9) (i : Int) (by omega) (by omega)
       obtain ⟨la, lc, hAL, hlcl, hlK, hlcc⟩ := Kd.C_get (show Kd.C (Kd.slice 9 Kd.string) wr AL d.rules.length (d.rules.map (fun x => x.f3 ++ [sh])) from (HR.out wr HU.out.below).xl) [] (i : Int) (by omega) (by omega)
       have hq1 : rd_T51 (d.rules ++ ([⟨false, sh, e0, [], 0, 0⟩] : List S51)) (i : Int) = d.rules[i] := by simp [rd_T51, List.getD_eq_getElem?_getD, List.getElem?_append_left hlt, hlt]
       have hq2 : rd_T51 d.rules (i : Int) = d.rules[i] := by simp [rd_T51, List.getD_eq_getElem?_getD, hlt]
       have hq3 : (d.rules.map (fun x => x.f3 ++ [sh])).getD (i : Int).toNat [] = d.rules[i].f3 ++ [sh] := by simp [List.getD_eq_getElem?_getD, hlt]
       rw [hq1] at x0 x1 x2 x3 x4 x5 hka hca
       rw [hq2] at y0 y1 y2 y3 y4 y5 hkb hcb
       rw [hq3] at hlK
       have hlr := HD.out.each d.rules[i] (List.getElem_mem hlt)
       obtain ⟨r, hrr⟩ : ∃ r, r = d.rules[i] := ⟨_, rfl⟩
       rw [← hrr] at x0 x1 x2 x3 x4 x5 hka hca y0 y1 y2 y3 y4 y5 hkb hcb hlK hlr
       obtain ⟨Li, li, hlv, hll, hlC⟩ := hlK
       subst hlv
       have hx := hlcc 0 _ rfl
       simp only [Int.toNat_natCast, show (Kd.slice 9 Kd.string).sz = 1 from rfl, Nat.mul_one, Nat.add_zero, List.length_append, List.length_singleton] at hx hll hlC
       simp only [Int.toNat_natCast] at x0 x1 x2 x3 x4 x5 y0 y1 y2 y3 y4 y5
       subst hF9; subst hA9; subst hAL
       have HKL := Aside0.mk hll
       have HCL0 := Aside0.mk hlC
       have HLX0 := Aside0.mk hx
       have HKB := Aside0.mk hkb
       have HCB0 := Aside0.mk hcb
       have HRL := Aside0.mk hlr
       clear hq1 hq2 hq3 hrr hlcc hlcl hll hlC hx hkb hcb hlr hka hca
       have xf9 := HU.out.full.cell 9
       have xp9 := HU.out.pol.cell 9
       simp only [List.getElem?_toArray, List.getElem?_cons_zero, List.getElem?_cons_succ] at xf9 xp9
       go_upto_region 23 with (first | ((with_reducible refine gate_dst (N := 10) rfl ?_); refine wpList_alloc_store rfl rfl 51 10 (.tmp 159) rfl rfl rfl #[.bool false, .string ⟨#[]⟩, .string ⟨#[]⟩, .slice none 0 0, .int .i8 0, .float .f64 0] #[.bool r.f0, .string r.f1, .string r.f2, .slice Ra r.f3.length ra, .int .i8 r.f4, .float .f64 r.f5] _ (z51 _) rfl (by kernel_rfl) rfl (by simp [Value.oneCell']) rfl rfl ?_))
       clear x0 x1 x2 x3 x4 x5 xf9 xp9
       have hbA := below_alloc (Below.refl _ wr) (.cells #[.bool r.f0, .string r.f1, .string r.f2, .slice Ra r.f3.length ra, .int .i8 r.f4, .float .f64 r.f5] 51)
       have hgA : Stays (wr.alloc (.cells #[.bool r.f0, .string r.f1, .string r.f2, .slice Ra r.f3.length ra, .int .i8 r.f4, .float .f64 r.f5] 51)) wr.heap.size #[.bool r.f0, .string r.f1, .string r.f2, .slice Ra r.f3.length ra, .int .i8 r.f4, .float .f64 r.f5] 51 := heap_alloc_new wr _
       have hU2 := HU.out.move hbA
       have hLX2 := pw_cell_below hbA HLX0.out
       have hCL2 := Kd.C_below HCL0.out hbA
       have hCB2 := Kd.C_below HCB0.out hbA
       replace y0 := pw_cell_below hbA y0
       replace y1 := pw_cell_below hbA y1
       replace y2 := pw_cell_below hbA y2
       replace y3 := pw_cell_below hbA y3
       replace y4 := pw_cell_below hbA y4
       replace y5 := pw_cell_below hbA y5
       obtain ⟨g10, hg10⟩ : ∃ g10, g10 = wr.heap.size := ⟨_, rfl⟩
       rw [← hg10] at hgA ⊢
       clear hbA HU HLX0 HCL0 HCB0 hg10
       generalize wr.alloc (.cells #[.bool r.f0, .string r.f1, .string r.f2, .slice Ra r.f3.length ra, .int .i8 r.f4, .float .f64 r.f5] 51) = wr at hgA hU2 hLX2 hCL2 hCB2 y0 y1 y2 y3 y4 y5 ⊢
       have HG10 := Aside0.mk hgA
       have HU := Aside0.mk hU2
       have HLX := Aside0.mk hLX2
       have HCL := Aside0.mk hCL2
       have HCB := Aside0.mk hCB2
       clear hgA hU2 hLX2 hCL2 hCB2
       have xp9 := HU.out.pol.cell 9
       simp only [List.getElem?_toArray, List.getElem?_cons_zero, List.getElem?_cons_succ] at xp9
       go_upto_region 24 with (first | ((with_reducible refine gate_dst (N := 11) rfl ?_); refine wpList_alloc_store rfl rfl 51 11 (.tmp 164) rfl rfl rfl #[.bool false, .string ⟨#[]⟩, .string ⟨#[]⟩, .slice none 0 0, .int .i8 0, .float .f64 0] #[.bool r.f0, .string r.f1, .string r.f2, .slice Rb r.f3.length rb, .int .i8 r.f4, .float .f64 r.f5] _ (z51 _) rfl (by kernel_rfl) rfl (by simp [Value.oneCell']) rfl rfl ?_))
       clear y0 y1 y2 y3 y4 y5 xp9
       have hbB := below_alloc (Below.refl _ wr) (.cells #[.bool r.f0, .string r.f1, .string r.f2, .slice Rb r.f3.length rb, .int .i8 r.f4, .float .f64 r.f5] 51)
       have hgB : Stays (wr.alloc (.cells #[.bool r.f0, .string r.f1, .string r.f2, .slice Rb r.f3.length rb, .int .i8 r.f4, .float .f64 r.f5] 51)) wr.heap.size #[.bool r.f0, .string r.f1, .string r.f2, .slice Rb r.f3.length rb, .int .i8 r.f4, .float .f64 r.f5] 51 := heap_alloc_new wr _
       have hgA := HG10.out.below hbB
       have hU2 := HU.out.move hbB
       have hLX2 := pw_cell_below hbB HLX.out
       have hCL2 := Kd.C_below HCL.out hbB
       have hCB2 := Kd.C_below HCB.out hbB
       obtain ⟨g11, hg11⟩ : ∃ g11, g11 = wr.heap.size := ⟨_, rfl⟩
       rw [← hg11] at hgB ⊢
       clear hbB HU HG10 HLX HCL HCB hg11
       generalize wr.alloc (.cells #[.bool r.f0, .string r.f1, .string r.f2, .slice Rb r.f3.length rb, .int .i8 r.f4, .float .f64 r.f5] 51) = wr at hgA hgB hU2 hLX2 hCL2 hCB2 ⊢
       have HG10 := Aside0.mk hgA
       have HG11 := Aside0.mk hgB
       have HU := Aside0.mk hU2
       have HLX := Aside0.mk hLX2
       have HCL := Aside0.mk hCL2
       have HCB := Aside0.mk hCB2
       clear hgA hgB hU2 hLX2 hCL2 hCB2
       refine start_ (n := 54) (S := fun w' => w'.cell? ⟨g10, 0, none⟩ = some (.bool r.f0) ∧ w'.cell? ⟨g10, 1, none⟩ = some (.string r.f1) ∧ w'.cell? ⟨g10, 2, none⟩ = some (.string r.f2) ∧ w'.cell? ⟨g10, 3, none⟩ = some (.slice Ra r.f3.length ra) ∧ w'.cell? ⟨g10, 4, none⟩ = some (.int .i8 r.f4) ∧ w'.cell? ⟨g10, 5, none⟩ = some (.float .f64 r.f5) ∧ w'.cell? ⟨g11, 0, none⟩ = some (.bool r.f0) ∧ w'.cell? ⟨g11, 1, none⟩ = some (.string r.f1) ∧ w'.cell? ⟨g11, 2, none⟩ = some (.string r.f2) ∧ w'.cell? ⟨g11, 3, none⟩ = some (.slice Rb r.f3.length rb) ∧ w'.cell? ⟨g11, 4, none⟩ = some (.int .i8 r.f4) ∧ w'.cell? ⟨g11, 5, none⟩ = some (.float .f64 r.f5) ∧ w'.cell? ⟨w.heap.size, 22, none⟩ = some (.slice (some la) d.rules.length cL) ∧ w'.cell? (la.add i) = some (.slice Li (r.f3.length + 1) li)) (ds := []) #[false, false, false, false, false, false, false, false, false, false, false, false, false, false, false, false, false, false, false, false, false, false, false, false, false, false, false, false, false, false, false, false, false, false, false, false, false, false, false, false, false, false, false, false, false, false, false, false, false, false, false, false, false, false] (by kernel_rfl) rfl rfl ⟨HG10.out.cell 0, HG10.out.cell 1, HG10.out.cell 2, HG10.out.cell 3, HG10.out.cell 4, HG10.out.cell 5, HG11.out.cell 0, HG11.out.cell 1, HG11.out.cell 2, HG11.out.cell 3, HG11.out.cell 4, HG11.out.cell 5, HU.out.room.cell 22, HLX.out⟩ (fun hHeld => ?_)
       refine pure_ (i := 0) (N := some 165) (v := ?_) (a' := ?_) #[true, false, false, false, false, false, false, false, false, false, false, false, false, false, false, false, false, false, false, false, false, false, false, false, false, false, false, false, false, false, false, false, false, false, false, false, false, false, false, false, false, false, false, false, false, false, false, false, false, false, false, false, false, false] rfl rfl (by kernel_rfl) (fun _ _ _ h => h) (Or.inl ⟨by rfl, ?_⟩) ?_ ?_
       rotate_left
       ·intro w'
        go_simp
        with_reducible rfl
       rotate_left
       ·simp only [Act.put, List.setIfInBounds_toArray, List.set_cons_zero, List.set_cons_succ]
        rfl
       refine take_ (i := 1) (N := some 166) (v := ?_) (a' := ?_) #[true, true, false, false, false, false, false, false, false, false, false, false, false, false, false, false, false, false, false, false, false, false, false, false, false, false, false, false, false, false, false, false, false, false, false, false, false, false, false, false, false, false, false, false, false, false, false, false, false, false, false, false, false, false] rfl rfl (by kernel_rfl) (fun _ _ _ h => h) (Or.inl ⟨by rfl, ?_⟩) hHeld ?_ ?_
       rotate_left
       ·rintro w' ⟨s0, s1, s2, s3, s4, s5, s6, s7, s8, s9, s10, s11, s12, s13⟩
        go_simp
        with_reducible rfl
       rotate_left
       ·simp only [Act.put, List.setIfInBounds_toArray, List.set_cons_zero, List.set_cons_succ]
        rfl
       refine pure_ (i := 2) (N := some 167) (v := ?_) (a' := ?_) #[true, true, true, false, false, false, false, false, false, false, false, false, false, false, false, false, false, false, false, false, false, false, false, false, false, false, false, false, false, false, false, false, false, false, false, false, false, false, false, false, false, false, false, false, false, false, false, false, false, false, false, false, false, false] rfl rfl (by kernel_rfl) (fun _ _ _ h => h) (Or.inl ⟨by rfl, ?_⟩) ?_ ?_
       rotate_left
       ·intro w'
        go_simp
        with_reducible rfl
       rotate_left
       ·simp only [Act.put, List.setIfInBounds_toArray, List.set_cons_zero, List.set_cons_succ]
        rfl
       refine take_ (i := 3) (N := some 168) (v := ?_) (a' := ?_) #[true, true, true, true, false, false, false, false, false, false, false, false, false, false, false, false, false, false, false, false, false, false, false, false, false, false, false, false, false, false, false, false, false, false, false, false, false, false, false, false, false, false, false, false, false, false, false, false, false, false, false, false, false, false] rfl rfl (by kernel_rfl) (fun _ _ _ h => h) (Or.inl ⟨by rfl, ?_⟩) hHeld ?_ ?_
       rotate_left
       ·rintro w' ⟨s0, s1, s2, s3, s4, s5, s6, s7, s8, s9, s10, s11, s12, s13⟩
        go_simp
        with_reducible rfl
       rotate_left
       ·simp only [Act.put, List.setIfInBounds_toArray, List.set_cons_zero, List.set_cons_succ]
        rfl
       refine pure_ (i := 4) (N := some 169) (v := ?_) (a' := ?_) #[true, true, true, true, true, false, false, false, false, false, false, false, false, false, false, false, false, false, false, false, false, false, false, false, false, false, false, false, false, false, false, false, false, false, false, false, false, false, false, false, false, false, false, false, false, false, false, false, false, false, false, false, false, false] rfl rfl (by kernel_rfl) (fun _ _ _ h => h) (Or.inl ⟨by rfl, ?_⟩) ?_ ?_
       rotate_left
       ·intro w'
        go_simp
        with_reducible rfl
       rotate_left
       ·simp only [Act.put, List.setIfInBounds_toArray, List.set_cons_zero, List.set_cons_succ]
        rfl
       refine pure_ (i := 5) (N := some 170) (v := ?_) (a' := ?_) #[true, true, true, true, true, true, false, false, false, false, false, false, false, false, false, false, false, false, false, false, false, false, false, false, false, false, false, false, false, false, false, false, false, false, false, false, false, false, false, false, false, false, false, false, false, false, false, false, false, false, false, false, false, false] rfl rfl (by kernel_rfl) (fun _ _ _ h => h) (Or.inl ⟨by rfl, ?_⟩) ?_ ?_
       rotate_left
       ·intro w'
        go_simp
        with_reducible rfl
       rotate_left
       ·simp only [Act.put, List.setIfInBounds_toArray, List.set_cons_zero, List.set_cons_succ]
        rfl
       refine pure_ (i := 6) (N := some 171) (v := ?_) (a' := ?_) #[true, true, true, true, true, true, true, false, false, false, false, false, false, false, false, false, false, false, false, false, false, false, false, false, false, false, false, false, false, false, false, false, false, false, false, false, false, false, false, false, false, false, false, false, false, false, false, false, false, false, false, false, false, false] rfl rfl (by kernel_rfl) (fun _ _ _ h => h) (Or.inl ⟨by rfl, ?_⟩) ?_ ?_
       rotate_left
       ·intro w'
        go_simp
        with_reducible rfl
       rotate_left
       ·simp only [Act.put, List.setIfInBounds_toArray, List.set_cons_zero, List.set_cons_succ]
        rfl
       refine take_ (i := 7) (N := some 172) (v := ?_) (a' := ?_) #[true, true, true, true, true, true, true, true, false, false, false, false, false, false, false, false, false, false, false, false, false, false, false, false, false, false, false, false, false, false, false, false, false, false, false, false, false, false, false, false, false, false, false, false, false, false, false, false, false, false, false, false, false, false] rfl rfl (by kernel_rfl) (fun _ _ _ h => h) (Or.inl ⟨by rfl, ?_⟩) hHeld ?_ ?_
       rotate_left
       ·rintro w' ⟨s0, s1, s2, s3, s4, s5, s6, s7, s8, s9, s10, s11, s12, s13⟩
        go_simp
        with_reducible rfl
       rotate_left
       ·simp only [Act.put, List.setIfInBounds_toArray, List.set_cons_zero, List.set_cons_succ]
        rfl
       refine pure_ (i := 8) (N := some 173) (v := ?_) (a' := ?_) #[true, true, true, true, true, true, true, true, true, false, false, false, false, false, false, false, false, false, false, false, false, false, false, false, false, false, false, false, false, false, false, false, false, false, false, false, false, false, false, false, false, false, false, false, false, false, false, false, false, false, false, false, false, false] rfl rfl (by kernel_rfl) (fun _ _ _ h => h) (Or.inl ⟨by rfl, ?_⟩) ?_ ?_
       rotate_left
       ·intro w'
        go_simp
        with_reducible rfl
       rotate_left
       ·simp only [Act.put, List.setIfInBounds_toArray, List.set_cons_zero, List.set_cons_succ]
        rfl
       refine take_ (i := 9) (N := some 174) (v := ?_) (a' := ?_) #[true, true, true, true, true, true, true, true, true, true, false, false, false, false, false, false, false, false, false, false, false, false, false, false, false, false, false, false, false, false, false, false, false, false, false, false, false, false, false, false, false, false, false, false, false, false, false, false, false, false, false, false, false, false] rfl rfl (by kernel_rfl) (fun _ _ _ h => h) (Or.inl ⟨by rfl, ?_⟩) hHeld ?_ ?_
       rotate_left
       ·rintro w' ⟨s0, s1, s2, s3, s4, s5, s6, s7, s8, s9, s10, s11, s12, s13⟩
        go_simp
        with_reducible rfl
       rotate_left
       ·simp only [Act.put, List.setIfInBounds_toArray, List.set_cons_zero, List.set_cons_succ]
        rfl
       refine pure_ (i := 10) (N := some 175) (v := ?_) (a' := ?_) #[true, true, true, true, true, true, true, true, true, true, true, false, false, false, false, false, false, false, false, false, false, false, false, false, false, false, false, false, false, false, false, false, false, false, false, false, false, false, false, false, false, false, false, false, false, false, false, false, false, false, false, false, false, false] rfl rfl (by kernel_rfl) (fun _ _ _ h => h) (Or.inl ⟨by rfl, ?_⟩) ?_ ?_
       rotate_left
       ·intro w'
        go_simp
        with_reducible rfl
       rotate_left
       ·simp only [Act.put, List.setIfInBounds_toArray, List.set_cons_zero, List.set_cons_succ]
        rfl
       refine pure_ (i := 11) (N := some 176) (v := ?_) (a' := ?_) #[true, true, true, true, true, true, true, true, true, true, true, true, false, false, false, false, false, false, false, false, false, false, false, false, false, false, false, false, false, false, false, false, false, false, false, false, false, false, false, false, false, false, false, false, false, false, false, false, false, false, false, false, false, false] rfl rfl (by kernel_rfl) (fun _ _ _ h => h) (Or.inl ⟨by rfl, ?_⟩) ?_ ?_
       rotate_left
       ·intro w'
        go_simp
        with_reducible rfl
       rotate_left
       ·simp only [Act.put, List.setIfInBounds_toArray, List.set_cons_zero, List.set_cons_succ]
        rfl
       refine pure_ (i := 12) (N := some 177) (v := ?_) (a' := ?_) #[true, true, true, true, true, true, true, true, true, true, true, true, true, false, false, false, false, false, false, false, false, false, false, false, false, false, false, false, false, false, false, false, false, false, false, false, false, false, false, false, false, false, false, false, false, false, false, false, false, false, false, false, false, false] rfl rfl (by kernel_rfl) (fun _ _ _ h => h) (Or.inl ⟨by rfl, ?_⟩) ?_ ?_
       rotate_left
       ·intro w'
        go_simp
        with_reducible rfl
       rotate_left
       ·simp only [Act.put, List.setIfInBounds_toArray, List.set_cons_zero, List.set_cons_succ]
        rfl
       refine pure_ (i := 13) (N := some 178) (v := ?_) (a' := ?_) #[true, true, true, true, true, true, true, true, true, true, true, true, true, true, false, false, false, false, false, false, false, false, false, false, false, false, false, false, false, false, false, false, false, false, false, false, false, false, false, false, false, false, false, false, false, false, false, false, false, false, false, false, false, false] rfl rfl (by kernel_rfl) (fun _ _ _ h => h) (Or.inl ⟨by rfl, ?_⟩) ?_ ?_
       rotate_left
       ·intro w'
        go_simp
        with_reducible rfl
       rotate_left
       ·simp only [Act.put, List.setIfInBounds_toArray, List.set_cons_zero, List.set_cons_succ]
        rfl
       refine take_ (i := 14) (N := some 179) (v := ?_) (a' := ?_) #[true, true, true, true, true, true, true, true, true, true, true, true, true, true, true, false, false, false, false, false, false, false, false, false, false, false, false, false, false, false, false, false, false, false, false, false, false, false, false, false, false, false, false, false, false, false, false, false, false, false, false, false, false, false] rfl rfl (by kernel_rfl) (fun _ _ _ h => h) (Or.inl ⟨by rfl, ?_⟩) hHeld ?_ ?_
       rotate_left
       ·rintro w' ⟨s0, s1, s2, s3, s4, s5, s6, s7, s8, s9, s10, s11, s12, s13⟩
        go_simp
        with_reducible rfl
       rotate_left
       ·simp only [Act.put, List.setIfInBounds_toArray, List.set_cons_zero, List.set_cons_succ]
        rfl
       refine pure_ (i := 15) (N := some 180) (v := ?_) (a' := ?_) #[true, true, true, true, true, true, true, true, true, true, true, true, true, true, true, true, false, false, false, false, false, false, false, false, false, false, false, false, false, false, false, false, false, false, false, false, false, false, false, false, false, false, false, false, false, false, false, false, false, false, false, false, false, false] rfl rfl (by kernel_rfl) (fun _ _ _ h => h) (Or.inl ⟨by rfl, ?_⟩) ?_ ?_
       rotate_left
       ·intro w'
        go_simp
        with_reducible rfl
       rotate_left
       ·simp only [Act.put, List.setIfInBounds_toArray, List.set_cons_zero, List.set_cons_succ]
        rfl
       refine take_ (i := 16) (N := some 181) (v := ?_) (a' := ?_) #[true, true, true, true, true, true, true, true, true, true, true, true, true, true, true, true, true, false, false, false, false, false, false, false, false, false, false, false, false, false, false, false, false, false, false, false, false, false, false, false, false, false, false, false, false, false, false, false, false, false, false, false, false, false] rfl rfl (by kernel_rfl) (fun _ _ _ h => h) (Or.inl ⟨by rfl, ?_⟩) hHeld ?_ ?_
       rotate_left
       ·rintro w' ⟨s0, s1, s2, s3, s4, s5, s6, s7, s8, s9, s10, s11, s12, s13⟩
        go_simp
        with_reducible rfl
       rotate_left
       ·simp only [Act.put, List.setIfInBounds_toArray, List.set_cons_zero, List.set_cons_succ]
        rfl
       refine pure_ (i := 17) (N := some 182) (v := ?_) (a' := ?_) #[true, true, true, true, true, true, true, true, true, true, true, true, true, true, true, true, true, true, false, false, false, false, false, false, false, false, false, false, false, false, false, false, false, false, false, false, false, false, false, false, false, false, false, false, false, false, false, false, false, false, false, false, false, false] rfl rfl (by kernel_rfl) (fun _ _ _ h => h) (Or.inl ⟨by rfl, ?_⟩) ?_ ?_
       rotate_left
       ·intro w'
        go_simp
        with_reducible rfl
       rotate_left
       ·simp only [Act.put, List.setIfInBounds_toArray, List.set_cons_zero, List.set_cons_succ]
        rfl
       refine pure_ (i := 18) (N := some 183) (v := ?_) (a' := ?_) #[true, true, true, true, true, true, true, true, true, true, true, true, true, true, true, true, true, true, true, false, false, false, false, false, false, false, false, false, false, false, false, false, false, false, false, false, false, false, false, false, false, false, false, false, false, false, false, false, false, false, false, false, false, false] rfl rfl (by kernel_rfl) (fun _ _ _ h => h) (Or.inl ⟨by rfl, ?_⟩) ?_ ?_
       rotate_left
       ·intro w'
        go_simp
        with_reducible rfl
       rotate_left
       ·simp only [Act.put, List.setIfInBounds_toArray, List.set_cons_zero, List.set_cons_succ]
        rfl
       refine pure_ (i := 19) (N := some 184) (v := ?_) (a' := ?_) #[true, true, true, true, true, true, true, true, true, true, true, true, true, true, true, true, true, true, true, true, false, false, false, false, false, false, false, false, false, false, false, false, false, false, false, false, false, false, false, false, false, false, false, false, false, false, false, false, false, false, false, false, false, false] rfl rfl (by kernel_rfl) (fun _ _ _ h => h) (Or.inl ⟨by rfl, ?_⟩) ?_ ?_
       rotate_left
       ·intro w'
        go_simp
        with_reducible rfl
       rotate_left
       ·simp only [Act.put, List.setIfInBounds_toArray, List.set_cons_zero, List.set_cons_succ]
        rfl
       refine pure_ (i := 20) (N := some 185) (v := ?_) (a' := ?_) #[true, true, true, true, true, true, true, true, true, true, true, true, true, true, true, true, true, true, true, true, true, false, false, false, false, false, false, false, false, false, false, false, false, false, false, false, false, false, false, false, false, false, false, false, false, false, false, false, false, false, false, false, false, false] rfl rfl (by kernel_rfl) (fun _ _ _ h => h) (Or.inl ⟨by rfl, ?_⟩) ?_ ?_
       rotate_left
       ·intro w'
        go_simp
        with_reducible rfl
       rotate_left
       ·simp only [Act.put, List.setIfInBounds_toArray, List.set_cons_zero, List.set_cons_succ]
        rfl
       refine take_ (i := 21) (N := some 186) (v := ?_) (a' := ?_) #[true, true, true, true, true, true, true, true, true, true, true, true, true, true, true, true, true, true, true, true, true, true, false, false, false, false, false, false, false, false, false, false, false, false, false, false, false, false, false, false, false, false, false, false, false, false, false, false, false, false, false, false, false, false] rfl rfl (by kernel_rfl) (fun _ _ _ h => h) (Or.inl ⟨by rfl, ?_⟩) hHeld ?_ ?_
       rotate_left
       ·rintro w' ⟨s0, s1, s2, s3, s4, s5, s6, s7, s8, s9, s10, s11, s12, s13⟩
        go_simp
        with_reducible rfl
       rotate_left
       ·simp only [Act.put, List.setIfInBounds_toArray, List.set_cons_zero, List.set_cons_succ]
        rfl
       refine pure_ (i := 22) (N := some 187) (v := ?_) (a' := ?_) #[true, true, true, true, true, true, true, true, true, true, true, true, true, true, true, true, true, true, true, true, true, true, true, false, false, false, false, false, false, false, false, false, false, false, false, false, false, false, false, false, false, false, false, false, false, false, false, false, false, false, false, false, false, false] rfl rfl (by kernel_rfl) (fun _ _ _ h => h) (Or.inl ⟨by rfl, ?_⟩) ?_ ?_
       rotate_left
       ·intro w'
        go_simp
        with_reducible rfl
       rotate_left
       ·simp only [Act.put, List.setIfInBounds_toArray, List.set_cons_zero, List.set_cons_succ]
        rfl
       refine take_ (i := 23) (N := some 188) (v := ?_) (a' := ?_) #[true, true, true, true, true, true, true, true, true, true, true, true, true, true, true, true, true, true, true, true, true, true, true, true, false, false, false, false, false, false, false, false, false, false, false, false, false, false, false, false, false, false, false, false, false, false, false, false, false, false, false, false, false, false] rfl rfl (by kernel_rfl) (fun _ _ _ h => h) (Or.inl ⟨by rfl, ?_⟩) hHeld ?_ ?_
       rotate_left
       ·rintro w' ⟨s0, s1, s2, s3, s4, s5, s6, s7, s8, s9, s10, s11, s12, s13⟩
        go_simp
        with_reducible rfl
       rotate_left
       ·simp only [Act.put, List.setIfInBounds_toArray, List.set_cons_zero, List.set_cons_succ]
        rfl
       refine pure_ (i := 24) (N := some 189) (v := ?_) (a' := ?_) #[true, true, true, true, true, true, true, true, true, true, true, true, true, true, true, true, true, true, true, true, true, true, true, true, true, false, false, false, false, false, false, false, false, false, false, false, false, false, false, false, false, false, false, false, false, false, false, false, false, false, false, false, false, false] rfl rfl (by kernel_rfl) (fun _ _ _ h => h) (Or.inl ⟨by rfl, ?_⟩) ?_ ?_
       rotate_left
       ·intro w'
        go_simp
        with_reducible rfl
       rotate_left
       ·simp only [Act.put, List.setIfInBounds_toArray, List.set_cons_zero, List.set_cons_succ]
        rfl
       refine pure_ (i := 25) (N := some 190) (v := ?_) (a' := ?_) #[true, true, true, true, true, true, true, true, true, true, true, true, true, true, true, true, true, true, true, true, true, true, true, true, true, true, false, false, false, false, false, false, false, false, false, false, false, false, false, false, false, false, false, false, false, false, false, false, false, false, false, false, false, false] rfl rfl (by kernel_rfl) (fun _ _ _ h => h) (Or.inl ⟨by rfl, ?_⟩) ?_ ?_
       rotate_left
       ·intro w'
        go_simp
        with_reducible rfl
       rotate_left
       ·simp only [Act.put, List.setIfInBounds_toArray, List.set_cons_zero, List.set_cons_succ]
        rfl
       refine pure_ (i := 26) (N := some 191) (v := ?_) (a' := ?_) #[true, true, true, true, true, true, true, true, true, true, true, true, true, true, true, true, true, true, true, true, true, true, true, true, true, true, true, false, false, false, false, false, false, false, false, false, false, false, false, false, false, false, false, false, false, false, false, false, false, false, false, false, false, false] rfl rfl (by kernel_rfl) (fun _ _ _ h => h) (Or.inl ⟨by rfl, ?_⟩) ?_ ?_
       rotate_left
       ·intro w'
        go_simp
        with_reducible rfl
       rotate_left
       ·simp only [Act.put, List.setIfInBounds_toArray, List.set_cons_zero, List.set_cons_succ]
        rfl
       refine pure_ (i := 27) (N := some 192) (v := ?_) (a' := ?_) #[true, true, true, true, true, true, true, true, true, true, true, true, true, true, true, true, true, true, true, true, true, true, true, true, true, true, true, true, false, false, false, false, false, false, false, false, false, false, false, false, false, false, false, false, false, false, false, false, false, false, false, false, false, false] rfl rfl (by kernel_rfl) (fun _ _ _ h => h) (Or.inl ⟨by rfl, ?_⟩) ?_ ?_
       rotate_left
       ·intro w'
        go_simp
        with_reducible rfl
       rotate_left
       ·simp only [Act.put, List.setIfInBounds_toArray, List.set_cons_zero, List.set_cons_succ]
        rfl
       refine take_ (i := 28) (N := some 193) (v := ?_) (a' := ?_) #[true, true, true, true, true, true, true, true, true, true, true, true, true, true, true, true, true, true, true, true, true, true, true, true, true, true, true, true, true, false, false, false, false, false, false, false, false, false, false, false, false, false, false, false, false, false, false, false, false, false, false, false, false, false] rfl rfl (by kernel_rfl) (fun _ _ _ h => h) (Or.inl ⟨by rfl, ?_⟩) hHeld ?_ ?_
       rotate_left
       ·rintro w' ⟨s0, s1, s2, s3, s4, s5, s6, s7, s8, s9, s10, s11, s12, s13⟩
        go_simp
        with_reducible rfl
       rotate_left
       ·simp only [Act.put, List.setIfInBounds_toArray, List.set_cons_zero, List.set_cons_succ]
        rfl
       refine pure_ (i := 29) (N := some 194) (v := ?_) (a' := ?_) #[true, true, true, true, true, true, true, true, true, true, true, true, true, true, true, true, true, true, true, true, true, true, true, true, true, true, true, true, true, true, false, false, false, false, false, false, false, false, false, false, false, false, false, false, false, false, false, false, false, false, false, false, false, false] rfl rfl (by kernel_rfl) (fun _ _ _ h => h) (Or.inl ⟨by rfl, ?_⟩) ?_ ?_
       rotate_left
       ·intro w'
        go_simp
        with_reducible rfl
       rotate_left
       ·simp only [Act.put, List.setIfInBounds_toArray, List.set_cons_zero, List.set_cons_succ]
        rfl
       refine take_ (i := 30) (N := some 195) (v := ?_) (a' := ?_) #[true, true, true, true, true, true, true, true, true, true, true, true, true, true, true, true, true, true, true, true, true, true, true, true, true, true, true, true, true, true, true, false, false, false, false, false, false, false, false, false, false, false, false, false, false, false, false, false, false, false, false, false, false, false] rfl rfl (by kernel_rfl) (fun _ _ _ h => h) (Or.inl ⟨by rfl, ?_⟩) hHeld ?_ ?_
       rotate_left
       ·rintro w' ⟨s0, s1, s2, s3, s4, s5, s6, s7, s8, s9, s10, s11, s12, s13⟩
        go_simp
        with_reducible rfl
       rotate_left
       ·simp only [Act.put, List.setIfInBounds_toArray, List.set_cons_zero, List.set_cons_succ]
        rfl
       refine one_ (i := 31) (N := some 196) #[true, true, true, true, true, true, true, true, true, true, true, true, true, true, true, true, true, true, true, true, true, true, true, true, true, true, true, true, true, true, true, true, false, false, false, false, false, false, false, false, false, false, false, false, false, false, false, false, false, false, false, false, false, false] rfl rfl (by kernel_rfl) (by decide) (fun K hK => ?_)
       refine goes_ Try.func21 (by kernel_rfl) rfl #[.float .f64 r.f5, .float .f64 r.f5] (by rfl) rfl rfl (by (try simp only [List.map_toArray, List.map_cons, List.map_nil]); first | done | rfl) ?_
       refine (equals_go r.f5 _).mono ?_
       rintro e W1 ⟨rfl, hb1⟩
       refine ⟨_, rfl, ?_⟩
       have hb2 : Below wr.heap.size wr W1 := below_then (below_drew (Below.refl wr.heap.size wr)) (Nat.le_refl _) hb1
       have HU1 := Aside0.mk (HU.out.move hb2)
       have HGa1 := Aside0.mk (HG10.out.below hb2)
       have HGb1 := Aside0.mk (HG11.out.below hb2)
       have HLX1 := Aside0.mk (pw_cell_below hb2 HLX.out)
       have HCL1 := Aside0.mk (Kd.C_below HCL.out hb2)
       have HCB1 := Aside0.mk (Kd.C_below HCB.out hb2)
       refine hK.out _ _ ⟨HGa1.out.cell 0, HGa1.out.cell 1, HGa1.out.cell 2, HGa1.out.cell 3, HGa1.out.cell 4, HGa1.out.cell 5, HGb1.out.cell 0, HGb1.out.cell 1, HGb1.out.cell 2, HGb1.out.cell 3, HGb1.out.cell 4, HGb1.out.cell 5, HU1.out.room.cell 22, HLX1.out⟩ (fun hHeld => ?_)
       clear hK K hb1 hb2
       refine norm_ (a' := ?_) ?_ ?_
       rotate_left
       ·show Act.put _ (some 196) _ = _
        simp only [Act.put, List.setIfInBounds_toArray, List.set_cons_zero, List.set_cons_succ]
        rfl
       refine pure_ (i := 32) (N := some 197) (v := ?_) (a' := ?_) #[true, true, true, true, true, true, true, true, true, true, true, true, true, true, true, true, true, true, true, true, true, true, true, true, true, true, true, true, true, true, true, true, true, false, false, false, false, false, false, false, false, false, false, false, false, false, false, false, false, false, false, false, false, false] rfl rfl (by kernel_rfl) (fun _ _ _ h => h) (Or.inl ⟨by rfl, ?_⟩) ?_ ?_
       rotate_left
       ·intro w'
        go_simp
        with_reducible rfl
       rotate_left
       ·simp only [Act.put, List.setIfInBounds_toArray, List.set_cons_zero, List.set_cons_succ]
        rfl
       refine pure_ (i := 33) (N := some 198) (v := ?_) (a' := ?_) #[true, true, true, true, true, true, true, true, true, true, true, true, true, true, true, true, true, true, true, true, true, true, true, true, true, true, true, true, true, true, true, true, true, true, false, false, false, false, false, false, false, false, false, false, false, false, false, false, false, false, false, false, false, false] rfl rfl (by kernel_rfl) (fun _ _ _ h => h) (Or.inl ⟨by rfl, ?_⟩) ?_ ?_
       rotate_left
       ·intro w'
        go_simp
        with_reducible rfl
       rotate_left
       ·simp only [Act.put, List.setIfInBounds_toArray, List.set_cons_zero, List.set_cons_succ]
        rfl
       refine pure_ (i := 34) (N := some 199) (v := ?_) (a' := ?_) #[true, true, true, true, true, true, true, true, true, true, true, true, true, true, true, true, true, true, true, true, true, true, true, true, true, true, true, true, true, true, true, true, true, true, true, false, false, false, false, false, false, false, false, false, false, false, false, false, false, false, false, false, false, false] rfl rfl (by kernel_rfl) (fun _ _ _ h => h) (Or.inl ⟨by rfl, ?_⟩) ?_ ?_
       rotate_left
       ·intro w'
        go_simp
        with_reducible rfl
       rotate_left
       ·simp only [Act.put, List.setIfInBounds_toArray, List.set_cons_zero, List.set_cons_succ]
        rfl
       refine pure_ (i := 35) (N := some 200) (v := ?_) (a' := ?_) #[true, true, true, true, true, true, true, true, true, true, true, true, true, true, true, true, true, true, true, true, true, true, true, true, true, true, true, true, true, true, true, true, true, true, true, true, false, false, false, false, false, false, false, false, false, false, false, false, false, false, false, false, false, false] rfl rfl (by kernel_rfl) (fun _ _ _ h => h) (Or.inl ⟨by rfl, ?_⟩) ?_ ?_
       rotate_left
       ·intro w'
        go_simp
        with_reducible rfl
       rotate_left
       ·simp only [Act.put, List.setIfInBounds_toArray, List.set_cons_zero, List.set_cons_succ]
        rfl
       refine take_ (i := 36) (N := some 201) (v := ?_) (a' := ?_) #[true, true, true, true, true, true, true, true, true, true, true, true, true, true, true, true, true, true, true, true, true, true, true, true, true, true, true, true, true, true, true, true, true, true, true, true, true, false, false, false, false, false, false, false, false, false, false, false, false, false, false, false, false, false] rfl rfl (by kernel_rfl) (fun _ _ _ h => h) (Or.inl ⟨by rfl, ?_⟩) hHeld ?_ ?_
       rotate_left
       ·rintro w' ⟨s0, s1, s2, s3, s4, s5, s6, s7, s8, s9, s10, s11, s12, s13⟩
        go_simp
        with_reducible rfl
       rotate_left
       ·simp only [Act.put, List.setIfInBounds_toArray, List.set_cons_zero, List.set_cons_succ]
        rfl
       refine pure_ (i := 37) (N := some 202) (v := ?_) (a' := ?_) #[true, true, true, true, true, true, true, true, true, true, true, true, true, true, true, true, true, true, true, true, true, true, true, true, true, true, true, true, true, true, true, true, true, true, true, true, true, true, false, false, false, false, false, false, false, false, false, false, false, false, false, false, false, false] rfl rfl (by kernel_rfl) (fun _ _ _ h => h) (Or.inl ⟨by rfl, ?_⟩) ?_ ?_
       rotate_left
       ·intro w'
        go_simp
        with_reducible rfl
       rotate_left
       ·simp only [Act.put, List.setIfInBounds_toArray, List.set_cons_zero, List.set_cons_succ]
        rfl
       refine pure_ (i := 38) (N := some 203) (v := ?_) (a' := ?_) #[true, true, true, true, true, true, true, true, true, true, true, true, true, true, true, true, true, true, true, true, true, true, true, true, true, true, true, true, true, true, true, true, true, true, true, true, true, true, true, false, false, false, false, false, false, false, false, false, false, false, false, false, false, false] rfl rfl (by kernel_rfl) (fun _ _ _ h => h) (Or.inl ⟨by rfl, ?_⟩) ?_ ?_
       rotate_left
       ·intro w'
        go_simp
        with_reducible rfl
       rotate_left
       ·simp only [Act.put, List.setIfInBounds_toArray, List.set_cons_zero, List.set_cons_succ]
        rfl
       refine take_ (i := 39) (N := some 204) (v := ?_) (a' := ?_) #[true, true, true, true, true, true, true, true, true, true, true, true, true, true, true, true, true, true, true, true, true, true, true, true, true, true, true, true, true, true, true, true, true, true, true, true, true, true, true, true, false, false, false, false, false, false, false, false, false, false, false, false, false, false] rfl rfl (by kernel_rfl) (fun _ _ _ h => h) (Or.inl ⟨by rfl, ?_⟩) hHeld ?_ ?_
       rotate_left
       ·rintro w' ⟨s0, s1, s2, s3, s4, s5, s6, s7, s8, s9, s10, s11, s12, s13⟩
        go_simp
        with_reducible rfl
       rotate_left
       ·simp only [Act.put, List.setIfInBounds_toArray, List.set_cons_zero, List.set_cons_succ]
        rfl
       refine pure_ (i := 40) (N := some 205) (v := ?_) (a' := ?_) #[true, true, true, true, true, true, true, true, true, true, true, true, true, true, true, true, true, true, true, true, true, true, true, true, true, true, true, true, true, true, true, true, true, true, true, true, true, true, true, true, true, false, false, false, false, false, false, false, false, false, false, false, false, false] rfl rfl (by kernel_rfl) (fun _ _ _ h => h) (Or.inl ⟨by rfl, ?_⟩) ?_ ?_
       rotate_left
       ·intro w'
        go_simp
        with_reducible rfl
       rotate_left
       ·simp only [Act.put, List.setIfInBounds_toArray, List.set_cons_zero, List.set_cons_succ]
        rfl
       refine pure_ (i := 41) (N := some 206) (v := ?_) (a' := ?_) #[true, true, true, true, true, true, true, true, true, true, true, true, true, true, true, true, true, true, true, true, true, true, true, true, true, true, true, true, true, true, true, true, true, true, true, true, true, true, true, true, true, true, false, false, false, false, false, false, false, false, false, false, false, false] rfl rfl (by kernel_rfl) (fun _ _ _ h => h) (Or.inl ⟨by rfl, ?_⟩) ?_ ?_
       rotate_left
       ·intro w'
        go_simp
        with_reducible rfl
       rotate_left
       ·simp only [Act.put, List.setIfInBounds_toArray, List.set_cons_zero, List.set_cons_succ]
        rfl
       refine pure_ (i := 42) (N := some 207) (v := ?_) (a' := ?_) #[true, true, true, true, true, true, true, true, true, true, true, true, true, true, true, true, true, true, true, true, true, true, true, true, true, true, true, true, true, true, true, true, true, true, true, true, true, true, true, true, true, true, true, false, false, false, false, false, false, false, false, false, false, false] rfl rfl (by kernel_rfl) (fun _ _ _ h => h) (Or.inl ⟨by rfl, ?_⟩) ?_ ?_
       rotate_left
       ·intro w'
        go_simp
        with_reducible rfl
       rotate_left
       ·simp only [Act.put, List.setIfInBounds_toArray, List.set_cons_zero, List.set_cons_succ]
        rfl
       refine pure_ (i := 43) (N := some 208) (v := ?_) (a' := ?_) #[true, true, true, true, true, true, true, true, true, true, true, true, true, true, true, true, true, true, true, true, true, true, true, true, true, true, true, true, true, true, true, true, true, true, true, true, true, true, true, true, true, true, true, true, false, false, false, false, false, false, false, false, false, false] rfl rfl (by kernel_rfl) (fun _ _ _ h => h) (Or.inl ⟨by rfl, ?_⟩) ?_ ?_
       rotate_left
       ·intro w'
        go_simp
        with_reducible rfl
       rotate_left
       ·simp only [Act.put, List.setIfInBounds_toArray, List.set_cons_zero, List.set_cons_succ]
        rfl
       refine pure_ (i := 44) (N := some 209) (v := ?_) (a' := ?_) #[true, true, true, true, true, true, true, true, true, true, true, true, true, true, true, true, true, true, true, true, true, true, true, true, true, true, true, true, true, true, true, true, true, true, true, true, true, true, true, true, true, true, true, true, true, false, false, false, false, false, false, false, false, false] rfl rfl (by kernel_rfl) (fun _ _ _ h => h) (Or.inl ⟨by rfl, ?_⟩) ?_ ?_
       rotate_left
       ·intro w'
        go_simp
        with_reducible rfl
       rotate_left
       ·simp only [Act.put, List.setIfInBounds_toArray, List.set_cons_zero, List.set_cons_succ]
        rfl
       refine take_ (i := 45) (N := some 210) (v := ?_) (a' := ?_) #[true, true, true, true, true, true, true, true, true, true, true, true, true, true, true, true, true, true, true, true, true, true, true, true, true, true, true, true, true, true, true, true, true, true, true, true, true, true, true, true, true, true, true, true, true, true, false, false, false, false, false, false, false, false] rfl rfl (by kernel_rfl) (fun _ _ _ h => h) (Or.inl ⟨by rfl, ?_⟩) hHeld ?_ ?_
       rotate_left
       ·rintro w' ⟨s0, s1, s2, s3, s4, s5, s6, s7, s8, s9, s10, s11, s12, s13⟩
        go_simp
        with_reducible rfl
       rotate_left
       ·simp only [Act.put, List.setIfInBounds_toArray, List.set_cons_zero, List.set_cons_succ]
        rfl
       refine pure_ (i := 46) (N := some 211) (v := ?_) (a' := ?_) #[true, true, true, true, true, true, true, true, true, true, true, true, true, true, true, true, true, true, true, true, true, true, true, true, true, true, true, true, true, true, true, true, true, true, true, true, true, true, true, true, true, true, true, true, true, true, true, false, false, false, false, false, false, false] rfl rfl (by kernel_rfl) (fun _ _ _ h => h) (Or.inl ⟨by rfl, ?_⟩) ?_ ?_
       rotate_left
       ·intro w'
        go_simp
        with_reducible rfl
       rotate_left
       ·simp only [Act.put, List.setIfInBounds_toArray, List.set_cons_zero, List.set_cons_succ]
        rfl
       refine pure_ (i := 47) (N := some 212) (v := ?_) (a' := ?_) #[true, true, true, true, true, true, true, true, true, true, true, true, true, true, true, true, true, true, true, true, true, true, true, true, true, true, true, true, true, true, true, true, true, true, true, true, true, true, true, true, true, true, true, true, true, true, true, true, false, false, false, false, false, false] rfl rfl (by kernel_rfl) (fun _ _ _ h => h) (Or.inl ⟨by rfl, ?_⟩) ?_ ?_
       rotate_left
       ·intro w'
        go_simp
        with_reducible rfl
       rotate_left
       ·simp only [Act.put, List.setIfInBounds_toArray, List.set_cons_zero, List.set_cons_succ]
        rfl
       refine take_ (i := 48) (N := some 213) (v := ?_) (a' := ?_) #[true, true, true, true, true, true, true, true, true, true, true, true, true, true, true, true, true, true, true, true, true, true, true, true, true, true, true, true, true, true, true, true, true, true, true, true, true, true, true, true, true, true, true, true, true, true, true, true, true, false, false, false, false, false] rfl rfl (by kernel_rfl) (fun _ _ _ h => h) (Or.inl ⟨by rfl, ?_⟩) hHeld ?_ ?_
       rotate_left
       ·rintro w' ⟨s0, s1, s2, s3, s4, s5, s6, s7, s8, s9, s10, s11, s12, s13⟩
        go_simp
        with_reducible rfl
       rotate_left
       ·simp only [Act.put, List.setIfInBounds_toArray, List.set_cons_zero, List.set_cons_succ]
        rfl
       refine pure_ (i := 49) (N := some 214) (v := ?_) (a' := ?_) #[true, true, true, true, true, true, true, true, true, true, true, true, true, true, true, true, true, true, true, true, true, true, true, true, true, true, true, true, true, true, true, true, true, true, true, true, true, true, true, true, true, true, true, true, true, true, true, true, true, true, false, false, false, false] rfl rfl (by kernel_rfl) (fun _ _ _ h => h) (Or.inl ⟨by rfl, ?_⟩) ?_ ?_
       rotate_left
       ·intro w'
        go_simp
        with_reducible rfl
       rotate_left
       ·simp only [Act.put, List.setIfInBounds_toArray, List.set_cons_zero, List.set_cons_succ]
        rfl
       refine take_ (i := 50) (N := some 215) (v := ?_) (a' := ?_) #[true, true, true, true, true, true, true, true, true, true, true, true, true, true, true, true, true, true, true, true, true, true, true, true, true, true, true, true, true, true, true, true, true, true, true, true, true, true, true, true, true, true, true, true, true, true, true, true, true, true, true, false, false, false] rfl rfl (by kernel_rfl) (fun _ _ _ h => h) (Or.inl ⟨by rfl, ?_⟩) hHeld ?_ ?_
       rotate_left
       ·rintro w' ⟨s0, s1, s2, s3, s4, s5, s6, s7, s8, s9, s10, s11, s12, s13⟩
        go_simp
        with_reducible rfl
       rotate_left
       ·simp only [Act.put, List.setIfInBounds_toArray, List.set_cons_zero, List.set_cons_succ]
        rfl
       refine one_ (i := 51) (N := some 216) #[true, true, true, true, true, true, true, true, true, true, true, true, true, true, true, true, true, true, true, true, true, true, true, true, true, true, true, true, true, true, true, true, true, true, true, true, true, true, true, true, true, true, true, true, true, true, true, true, true, true, true, true, false, false] rfl rfl (by kernel_rfl) (by decide) (fun K hK => ?_)
       refine goes_ Try.func19 (by kernel_rfl) rfl #[.slice Li (r.f3.length + 1) li, .slice Rb r.f3.length rb] (by rfl) rfl rfl (by (try simp only [List.map_toArray, List.map_cons, List.map_nil]); first | done | rfl) ?_
       refine (long_go Li Rb li rb r.f3 _ HRL.out HCL1.out HKL.out HCB1.out HKB.out).mono ?_
       rintro e W2 ⟨rfl, hb1⟩
       refine ⟨_, rfl, ?_⟩
       have hb2 : Below W1.heap.size W1 W2 := hb1
       have HU2 := Aside0.mk (HU1.out.move hb2)
       have HGa2 := Aside0.mk (HGa1.out.below hb2)
       have HGb2 := Aside0.mk (HGb1.out.below hb2)
       have HLX2 := Aside0.mk (pw_cell_below hb2 HLX1.out)
       refine hK.out _ _ ⟨HGa2.out.cell 0, HGa2.out.cell 1, HGa2.out.cell 2, HGa2.out.cell 3, HGa2.out.cell 4, HGa2.out.cell 5, HGb2.out.cell 0, HGb2.out.cell 1, HGb2.out.cell 2, HGb2.out.cell 3, HGb2.out.cell 4, HGb2.out.cell 5, HU2.out.room.cell 22, HLX2.out⟩ (fun hHeld => ?_)
       clear hK K hb1 hb2
       refine norm_ (a' := ?_) ?_ ?_
       rotate_left
       ·show Act.put _ (some 216) _ = _
        simp only [Act.put, List.setIfInBounds_toArray, List.set_cons_zero, List.set_cons_succ]
        rfl
       refine pure_ (i := 52) (N := some 217) (v := ?_) (a' := ?_) #[true, true, true, true, true, true, true, true, true, true, true, true, true, true, true, true, true, true, true, true, true, true, true, true, true, true, true, true, true, true, true, true, true, true, true, true, true, true, true, true, true, true, true, true, true, true, true, true, true, true, true, true, true, false] rfl rfl (by kernel_rfl) (fun _ _ _ h => h) (Or.inl ⟨by rfl, ?_⟩) ?_ ?_
       rotate_left
       ·intro w'
        go_simp
        with_reducible rfl
       rotate_left
       ·simp only [Act.put, List.setIfInBounds_toArray, List.set_cons_zero, List.set_cons_succ]
        rfl
       refine pure_ (i := 53) (N := some 218) (v := ?_) (a' := ?_) #[true, true, true, true, true, true, true, true, true, true, true, true, true, true, true, true, true, true, true, true, true, true, true, true, true, true, true, true, true, true, true, true, true, true, true, true, true, true, true, true, true, true, true, true, true, true, true, true, true, true, true, true, true, true] rfl rfl (by kernel_rfl) (fun _ _ _ h => h) (Or.inl ⟨by rfl, ?_⟩) ?_ ?_
       rotate_left
       ·intro w'
        go_simp
        with_reducible rfl
       rotate_left
       ·simp only [Act.put, List.setIfInBounds_toArray, List.set_cons_zero, List.set_cons_succ]
        rfl
       refine done_ (by kernel_rfl) ?_
       clear hHeld HU1 HGa1 HGb1 HLX1 HCL1 HCB1
       go_wp2
       exact round_end hlt (by have := HD.out.rules; omega) (fun hq => ⟨i + 1, by omega, hq, HU2⟩)
      ·have hil : i = d.rules.length := by omega
       have hlt' : ¬ ((i : Int) < d.rules.length) := by omega
       clear hlt hi
       go_upto_region 26 with fail
       clear xp9 hil hlt'
       have xf9 := HU.out.full.cell 9
       have xp9 := HU.out.pol.cell 9
       simp only [List.getElem?_toArray, List.getElem?_cons_zero, List.getElem?_cons_succ] at xf9 xp9
       obtain ⟨ad, Rm, rm, hF9, x0, x1, x2, x3, x4, x5, _, _⟩ := at_T51 (show Kd.C k51 wr F9 (d.rules.length + 1) (d.rules ++ ([⟨false, sh, e0, [], 0, 0⟩] : List S51)) from (HR.out wr HU.out.below).x9) (d.rules.length : Int) (by omega) (by omega)
       have hq1 : rd_T51 (d.rules ++ ([⟨false, sh, e0, [], 0, 0⟩] : List S51)) (d.rules.length : Int) = ⟨false, sh, e0, [], 0, 0⟩ := by simp [rd_T51, List.getD_eq_getElem?_getD]
       rw [hq1] at x0 x1 x2 x3 x4 x5
       simp only [Int.toNat_natCast, List.length_nil] at x0 x1 x2 x3 x4 x5
       subst hF9
       have hl1 : ((d.rules.length : Int) < (d.rules.length : Int) + 1) := by omega
       clear hq1
       go_upto_region 27 with (first | ((with_reducible refine gate_dst (N := 12) rfl ?_); refine wpList_alloc_store rfl rfl 51 12 (.tmp 225) rfl rfl rfl #[.bool false, .string ⟨#[]⟩, .string ⟨#[]⟩, .slice none 0 0, .int .i8 0, .float .f64 0] #[.bool false, .string sh, .string e0, .slice Rm 0 rm, .int .i8 0, .float .f64 0] _ (z51 _) rfl (by kernel_rfl) rfl (by simp [Value.oneCell']) rfl rfl ?_))
       clear x0 x1 x2 x3 x4 x5 xf9 xp9 hl1
       have hbA := below_alloc (Below.refl _ wr) (.cells #[.bool false, .string sh, .string e0, .slice Rm 0 rm, .int .i8 0, .float .f64 0] 51)
       have hgA : Stays (wr.alloc (.cells #[.bool false, .string sh, .string e0, .slice Rm 0 rm, .int .i8 0, .float .f64 0] 51)) wr.heap.size #[.bool false, .string sh, .string e0, .slice Rm 0 rm, .int .i8 0, .float .f64 0] 51 := heap_alloc_new wr _
       have HF := Aside0.mk (below_then HU.out.below HU.out.below.size hbA)
       obtain ⟨g12, hg12⟩ : ∃ g12, g12 = wr.heap.size := ⟨_, rfl⟩
       rw [← hg12] at hgA ⊢
       have z0 := Stays.cell hgA 0
       have z1 := Stays.cell hgA 1
       have z2 := Stays.cell hgA 2
       have z3 := Stays.cell hgA 3
       simp only [List.getElem?_toArray, List.getElem?_cons_zero, List.getElem?_cons_succ] at z0 z1 z2 z3
       clear hbA hgA hg12 HU
       generalize wr.alloc (.cells #[.bool false, .string sh, .string e0, .slice Rm 0 rm, .int .i8 0, .float .f64 0] 51) = wf at HF z0 z1 z2 z3 ⊢
       go_wp2
       go_ret
       exact ⟨by simp, HF.out⟩
end Go.Proofs.Ytacggjhgdkkclaa.KUnt
