/- Of this session's texts, what the row uses: QUnt. -/
import Derived.Test.YthaiodklfoegiaaZ7
set_option linter.unusedSimpArgs false
set_option linter.unusedVariables false
set_option maxHeartbeats 8000000
set_option maxRecDepth 100000
/- gatehouselaw11.Room.untouched, walked. -/
namespace Go.Proofs.Ythaiodklfoegiaa.QUnt
open Go.RowKit YthaiodklfoegiaaW.PrintWords YthaiodklfoegiaaW.PrintLast YthaiodklfoegiaaW.PrintMore Go.Maps
open PG YthaiodklfoegiaaF BRow MPut CSame GDiffer MSide MPol OBase OGr QRoomB QUntP
attribute [local go_sem high] run_feq run_fne run_flt_lt run_flt_le run_flt_gt run_flt_ge
structure RA where
 F0 : Option Addr
 f0 : Nat
 F1 : Option Addr
 f1 : Nat
 F2 : Option Addr
 f2 : Nat
 F3 : Option Addr
 f3 : Nat
 F4 : Option Addr
 f4 : Nat
 F5 : Option Addr
 f5 : Nat
 F6 : Option Addr
 f6 : Nat
 F7 : Option Addr
 f7 : Nat
 F8 : Option Addr
 f8 : Nat
 F9 : Option Addr
 f9 : Nat
 F10 : Option Addr
 f10 : Nat
 AL : Option Addr
 cL : Nat
structure RA.In (r : RA) (d : PolD) (W : World) : Prop where
 x0 : Kd.C Kd.string W r.F0 (d.acts.length + 1) (d.acts ++ [sh])
 k0 : d.acts.length + 1 ≤ r.f0
 x1 : Kd.C k54 W r.F1 (d.subs.length + 1) (d.subs ++ ([⟨sh, 0⟩] : List S54))
 k1 : d.subs.length + 1 ≤ r.f1
 x2 : Kd.C Kd.string W r.F2 (d.roles.length + 1) (d.roles ++ [sh])
 k2 : d.roles.length + 1 ≤ r.f2
 x3 : Kd.C Kd.string W r.F3 (d.objs.length + 1) (d.objs ++ [sh])
 k3 : d.objs.length + 1 ≤ r.f3
 x4 : Kd.C Kd.string W r.F4 (d.grps.length + 1) (d.grps ++ [sh])
 k4 : d.grps.length + 1 ≤ r.f4
 x5 : Kd.C k108 W r.F5 (d.mem.length + 1) (d.mem ++ ([⟨sh, e0⟩] : List S108))
 k5 : d.mem.length + 1 ≤ r.f5
 x6 : Kd.C k108 W r.F6 (d.inh.length + 1) (d.inh ++ ([⟨sh, e0⟩] : List S108))
 k6 : d.inh.length + 1 ≤ r.f6
 x7 : Kd.C k108 W r.F7 (d.par.length + 1) (d.par ++ ([⟨sh, e0⟩] : List S108))
 k7 : d.par.length + 1 ≤ r.f7
 x8 : Kd.C k108 W r.F8 (d.wit.length + 1) (d.wit ++ ([⟨sh, e0⟩] : List S108))
 k8 : d.wit.length + 1 ≤ r.f8
 x9 : Kd.C k78 W r.F9 (d.rules.length + 1) (d.rules ++ ([⟨false, sh, e0, [], 0, 0⟩] : List S78))
 k9 : d.rules.length + 1 ≤ r.f9
 x10 : Kd.C k28 W r.F10 (d.exc.length + 1) (d.exc ++ ([⟨sh, e0, e0⟩] : List S28))
 k10 : d.exc.length + 1 ≤ r.f10
 xl : Kd.C (Kd.slice 9 Kd.string) W r.AL d.rules.length (d.rules.map (fun x => x.f3 ++ [sh]))
 kl : d.rules.length ≤ r.cL
theorem RA.In.below {r : RA} {d : PolD} {W W1 : World} (h : r.In d W) (hb : Below W.heap.size W W1) : r.In d W1 :=
 ⟨Kd.C_below h.x0 hb, h.k0, Kd.C_below h.x1 hb, h.k1, Kd.C_below h.x2 hb, h.k2, Kd.C_below h.x3 hb, h.k3, Kd.C_below h.x4 hb, h.k4, Kd.C_below h.x5 hb, h.k5, Kd.C_below h.x6 hb, h.k6, Kd.C_below h.x7 hb, h.k7, Kd.C_below h.x8 hb, h.k8, Kd.C_below h.x9 hb, h.k9, Kd.C_below h.x10 hb, h.k10, Kd.C_below h.xl hb, h.kl⟩
structure Uw (w : World) (g5 : Nat) (rc pc fc : Array Value) (W : World) : Prop where
 room : Stays W w.heap.size rc 43
 pol : Stays W (w.heap.size + 1) pc 39
 full : Stays W g5 fc 39
 below : Below w.heap.size w W
theorem Uw.move {w W W1 : World} {g5 : Nat} {rc pc fc : Array Value} (h : Uw w g5 rc pc fc W) (hb : Below W.heap.size W W1) : Uw w g5 rc pc fc W1 := ⟨h.room.below hb, h.pol.below hb, h.full.below hb, below_then h.below h.below.size hb⟩
structure Short (d : PolD) : Prop where
 acts : d.acts.length ≤ 1048576
 subs : d.subs.length ≤ 1048576
 roles : d.roles.length ≤ 1048576
 objs : d.objs.length ≤ 1048576
 grps : d.grps.length ≤ 1048576
 mem : d.mem.length ≤ 1048576
 inh : d.inh.length ≤ 1048576
 par : d.par.length ≤ 1048576
 wit : d.wit.length ≤ 1048576
 rules : d.rules.length ≤ 1048576
 exc : d.exc.length ≤ 1048576
 each : ∀ r ∈ d.rules, r.f3.length ≤ 1048576
theorem long_go (A A' : Option Addr) (c c' : Nat) (l : List ByteArray) (w : World) (hl : l.length ≤ 1048576) (h : Kd.C Kd.string w A (l.length + 1) (l ++ [sh])) (hc : l.length + 1 ≤ c) (h' : Kd.C Kd.string w A' l.length l) (hc' : l.length ≤ c') :
  Calls Try.prog 50 #[.slice A (l.length + 1) c, .slice A' l.length c'] w fun e w' => e = .returned (.bool true) ∧ Below w.heap.size w w' := by
 have e : (l ++ [sh]).length = l.length + 1 := by simp
 have := asLong_go A A' c c' l w hl (by rw [e]; exact h) (by rw [e]; exact hc) h' hc'
 rwa [e] at this
theorem pair_go (A A' : Option Addr) (c c' : Nat) (l : List S108) (w : World) (hl : l.length ≤ 1048576) (h : Kd.C k108 w A (l.length + 1) (l ++ ([⟨sh, e0⟩] : List S108))) (hc : l.length + 1 ≤ c) (h' : Kd.C k108 w A' l.length l) (hc' : l.length ≤ c') :
  Calls Try.prog 51 #[.slice A (l.length + 1) c, .slice A' l.length c'] w fun e w' => e = .returned (.bool true) ∧ Below w.heap.size w w' := by
 have e : (l ++ ([⟨sh, e0⟩] : List S108)).length = l.length + 1 := by simp
 have := asPairs_go A A' c c' l w hl (by rw [e]; exact h) (by rw [e]; exact hc) h' hc'
 rwa [e] at this
theorem wrap_nat (j : Nat) (h : j ≤ 4194304000) : wrap64 ((j : Int) + 1) = ((j + 1 : Nat) : Int) := by unfold wrap64; omega
theorem round_end {n j : Nat} {P : Prop} (h : j < n) (hn : j ≤ 4194304000) (hP : ∀ _ : Value.int .i64 (wrap64 ((j : Int) + 1)) = Value.int .i64 ((j + 1 : Nat) : Int), P) : P ∧ n - (intOf (Value.int .i64 (wrap64 ((j : Int) + 1)))).toNat < n - (intOf (Value.int .i64 (j : Int))).toNat := by
 refine ⟨hP (by rw [wrap_nat j hn]), ?_⟩
 rw [wrap_nat j hn]
 simp only [intOf]
 omega
theorem z78 (w : World) : (zeroValue 78).run Try.prog w = .ok (.agg #[.bool false, .string ⟨#[]⟩, .string ⟨#[]⟩, .slice none 0 0, .int .i8 0, .float .f64 0]) w := by kernel_rfl
theorem z39 (w : World) : (zeroValue 39).run Try.prog w = .ok (.agg #[.slice none 0 0, .slice none 0 0, .slice none 0 0, .slice none 0 0, .slice none 0 0, .slice none 0 0, .slice none 0 0, .slice none 0 0, .slice none 0 0, .slice none 0 0, .slice none 0 0]) w := by kernel_rfl
def roomV (q : Pol) (r : RA) : Array Value := #[.slice q.A0 q.d.acts.length q.c0, .slice q.A1 q.d.subs.length q.c1, .slice q.A2 q.d.roles.length q.c2, .slice q.A3 q.d.objs.length q.c3, .slice q.A4 q.d.grps.length q.c4, .slice q.A5 q.d.mem.length q.c5, .slice q.A6 q.d.inh.length q.c6, .slice q.A7 q.d.par.length q.c7, .slice q.A8 q.d.wit.length q.c8, .slice q.A9 q.d.rules.length q.c9, .slice q.A10 q.d.exc.length q.c10, .slice r.F0 (q.d.acts.length + 1) r.f0, .slice r.F1 (q.d.subs.length + 1) r.f1, .slice r.F2 (q.d.roles.length + 1) r.f2, .slice r.F3 (q.d.objs.length + 1) r.f3, .slice r.F4 (q.d.grps.length + 1) r.f4, .slice r.F5 (q.d.mem.length + 1) r.f5, .slice r.F6 (q.d.inh.length + 1) r.f6, .slice r.F7 (q.d.par.length + 1) r.f7, .slice r.F8 (q.d.wit.length + 1) r.f8, .slice r.F9 (q.d.rules.length + 1) r.f9, .slice r.F10 (q.d.exc.length + 1) r.f10, .slice r.AL q.d.rules.length r.cL]
theorem untouched_calls (p q : Pol) (r : RA) (w : World) (hp : p.In w) (hq : q.d = p.d) (hr : r.In p.d w) (hd : Short p.d) :
  Calls Try.prog 17 #[.agg (roomV q r), .agg p.cells] w fun e w' => e = .returned (.bool true) ∧ Below w.heap.size w w' := by
 obtain ⟨d, A0, c0, A1, c1, A2, c2, A3, c3, A4, c4, A5, c5, A6, c6, A7, c7, A8, c8, A9, c9, A10, c10⟩ := p
 obtain ⟨dq, G0, h0, G1, h1, G2, h2, G3, h3, G4, h4, G5, h5, G6, h6, G7, h7, G8, h8, G9, h9, G10, h10⟩ := q
 obtain ⟨F0, f0, F1, f1, F2, f2, F3, f3, F4, f4, F5, f5, F6, f6, F7, f7, F8, f8, F9, f9, F10, f10, AL, cL⟩ := r
 have hq : d = dq := hq.symm
 subst hq
 have HP := jA (fun (W : World) (hb : Below w.heap.size w W) => hp.below hb)
 have HR := jA (fun (W : World) (hb : Below w.heap.size w W) => hr.below hb)
 have HD := jA (show Short d from hd)
 clear hp hr hd
 have hr2 : Stays ((w.alloc (.cells #[.slice G0 d.acts.length h0, .slice G1 d.subs.length h1, .slice G2 d.roles.length h2, .slice G3 d.objs.length h3, .slice G4 d.grps.length h4, .slice G5 d.mem.length h5, .slice G6 d.inh.length h6, .slice G7 d.par.length h7, .slice G8 d.wit.length h8, .slice G9 d.rules.length h9, .slice G10 d.exc.length h10, .slice F0 (d.acts.length + 1) f0, .slice F1 (d.subs.length + 1) f1, .slice F2 (d.roles.length + 1) f2, .slice F3 (d.objs.length + 1) f3, .slice F4 (d.grps.length + 1) f4, .slice F5 (d.mem.length + 1) f5, .slice F6 (d.inh.length + 1) f6, .slice F7 (d.par.length + 1) f7, .slice F8 (d.wit.length + 1) f8, .slice F9 (d.rules.length + 1) f9, .slice F10 (d.exc.length + 1) f10, .slice AL d.rules.length cL] 43)).alloc (.cells #[.slice A0 d.acts.length c0, .slice A1 d.subs.length c1, .slice A2 d.roles.length c2, .slice A3 d.objs.length c3, .slice A4 d.grps.length c4, .slice A5 d.mem.length c5, .slice A6 d.inh.length c6, .slice A7 d.par.length c7, .slice A8 d.wit.length c8, .slice A9 d.rules.length c9, .slice A10 d.exc.length c10] 39)) w.heap.size #[.slice G0 d.acts.length h0, .slice G1 d.subs.length h1, .slice G2 d.roles.length h2, .slice G3 d.objs.length h3, .slice G4 d.grps.length h4, .slice G5 d.mem.length h5, .slice G6 d.inh.length h6, .slice G7 d.par.length h7, .slice G8 d.wit.length h8, .slice G9 d.rules.length h9, .slice G10 d.exc.length h10, .slice F0 (d.acts.length + 1) f0, .slice F1 (d.subs.length + 1) f1, .slice F2 (d.roles.length + 1) f2, .slice F3 (d.objs.length + 1) f3, .slice F4 (d.grps.length + 1) f4, .slice F5 (d.mem.length + 1) f5, .slice F6 (d.inh.length + 1) f6, .slice F7 (d.par.length + 1) f7, .slice F8 (d.wit.length + 1) f8, .slice F9 (d.rules.length + 1) f9, .slice F10 (d.exc.length + 1) f10, .slice AL d.rules.length cL] 43 := Stays.below (heap_alloc_new w _) (below_alloc (Below.refl _ _) _)
 have hp2 : Stays ((w.alloc (.cells #[.slice G0 d.acts.length h0, .slice G1 d.subs.length h1, .slice G2 d.roles.length h2, .slice G3 d.objs.length h3, .slice G4 d.grps.length h4, .slice G5 d.mem.length h5, .slice G6 d.inh.length h6, .slice G7 d.par.length h7, .slice G8 d.wit.length h8, .slice G9 d.rules.length h9, .slice G10 d.exc.length h10, .slice F0 (d.acts.length + 1) f0, .slice F1 (d.subs.length + 1) f1, .slice F2 (d.roles.length + 1) f2, .slice F3 (d.objs.length + 1) f3, .slice F4 (d.grps.length + 1) f4, .slice F5 (d.mem.length + 1) f5, .slice F6 (d.inh.length + 1) f6, .slice F7 (d.par.length + 1) f7, .slice F8 (d.wit.length + 1) f8, .slice F9 (d.rules.length + 1) f9, .slice F10 (d.exc.length + 1) f10, .slice AL d.rules.length cL] 43)).alloc (.cells #[.slice A0 d.acts.length c0, .slice A1 d.subs.length c1, .slice A2 d.roles.length c2, .slice A3 d.objs.length c3, .slice A4 d.grps.length c4, .slice A5 d.mem.length c5, .slice A6 d.inh.length c6, .slice A7 d.par.length c7, .slice A8 d.wit.length c8, .slice A9 d.rules.length c9, .slice A10 d.exc.length c10] 39)) (w.heap.size + 1) #[.slice A0 d.acts.length c0, .slice A1 d.subs.length c1, .slice A2 d.roles.length c2, .slice A3 d.objs.length c3, .slice A4 d.grps.length c4, .slice A5 d.mem.length c5, .slice A6 d.inh.length c6, .slice A7 d.par.length c7, .slice A8 d.wit.length c8, .slice A9 d.rules.length c9, .slice A10 d.exc.length c10] 39 := by
  have h := heap_alloc_new (w.alloc (.cells #[.slice G0 d.acts.length h0, .slice G1 d.subs.length h1, .slice G2 d.roles.length h2, .slice G3 d.objs.length h3, .slice G4 d.grps.length h4, .slice G5 d.mem.length h5, .slice G6 d.inh.length h6, .slice G7 d.par.length h7, .slice G8 d.wit.length h8, .slice G9 d.rules.length h9, .slice G10 d.exc.length h10, .slice F0 (d.acts.length + 1) f0, .slice F1 (d.subs.length + 1) f1, .slice F2 (d.roles.length + 1) f2, .slice F3 (d.objs.length + 1) f3, .slice F4 (d.grps.length + 1) f4, .slice F5 (d.mem.length + 1) f5, .slice F6 (d.inh.length + 1) f6, .slice F7 (d.par.length + 1) f7, .slice F8 (d.wit.length + 1) f8, .slice F9 (d.rules.length + 1) f9, .slice F10 (d.exc.length + 1) f10, .slice AL d.rules.length cL] 43)) (.cells #[.slice A0 d.acts.length c0, .slice A1 d.subs.length c1, .slice A2 d.roles.length c2, .slice A3 d.objs.length c3, .slice A4 d.grps.length c4, .slice A5 d.mem.length c5, .slice A6 d.inh.length c6, .slice A7 d.par.length c7, .slice A8 d.wit.length c8, .slice A9 d.rules.length c9, .slice A10 d.exc.length c10] 39)
  rw [World.size_alloc] at h
  exact h
 have hb2 : Below w.heap.size w ((w.alloc (.cells #[.slice G0 d.acts.length h0, .slice G1 d.subs.length h1, .slice G2 d.roles.length h2, .slice G3 d.objs.length h3, .slice G4 d.grps.length h4, .slice G5 d.mem.length h5, .slice G6 d.inh.length h6, .slice G7 d.par.length h7, .slice G8 d.wit.length h8, .slice G9 d.rules.length h9, .slice G10 d.exc.length h10, .slice F0 (d.acts.length + 1) f0, .slice F1 (d.subs.length + 1) f1, .slice F2 (d.roles.length + 1) f2, .slice F3 (d.objs.length + 1) f3, .slice F4 (d.grps.length + 1) f4, .slice F5 (d.mem.length + 1) f5, .slice F6 (d.inh.length + 1) f6, .slice F7 (d.par.length + 1) f7, .slice F8 (d.wit.length + 1) f8, .slice F9 (d.rules.length + 1) f9, .slice F10 (d.exc.length + 1) f10, .slice AL d.rules.length cL] 43)).alloc (.cells #[.slice A0 d.acts.length c0, .slice A1 d.subs.length c1, .slice A2 d.roles.length c2, .slice A3 d.objs.length c3, .slice A4 d.grps.length c4, .slice A5 d.mem.length c5, .slice A6 d.inh.length c6, .slice A7 d.par.length c7, .slice A8 d.wit.length c8, .slice A9 d.rules.length c9, .slice A10 d.exc.length c10] 39)) := below_alloc (below_alloc (Below.refl _ _) _) _
 unfold Pol.cells roomV
 go_enter Try.func17, Try.ntmps17
 go_upto_region 1 with fail
 obtain ⟨W0, hW0⟩ : ∃ W0, W0 = (w.alloc (.cells #[.slice G0 d.acts.length h0, .slice G1 d.subs.length h1, .slice G2 d.roles.length h2, .slice G3 d.objs.length h3, .slice G4 d.grps.length h4, .slice G5 d.mem.length h5, .slice G6 d.inh.length h6, .slice G7 d.par.length h7, .slice G8 d.wit.length h8, .slice G9 d.rules.length h9, .slice G10 d.exc.length h10, .slice F0 (d.acts.length + 1) f0, .slice F1 (d.subs.length + 1) f1, .slice F2 (d.roles.length + 1) f2, .slice F3 (d.objs.length + 1) f3, .slice F4 (d.grps.length + 1) f4, .slice F5 (d.mem.length + 1) f5, .slice F6 (d.inh.length + 1) f6, .slice F7 (d.par.length + 1) f7, .slice F8 (d.wit.length + 1) f8, .slice F9 (d.rules.length + 1) f9, .slice F10 (d.exc.length + 1) f10, .slice AL d.rules.length cL] 43)).alloc (.cells #[.slice A0 d.acts.length c0, .slice A1 d.subs.length c1, .slice A2 d.roles.length c2, .slice A3 d.objs.length c3, .slice A4 d.grps.length c4, .slice A5 d.mem.length c5, .slice A6 d.inh.length c6, .slice A7 d.par.length c7, .slice A8 d.wit.length c8, .slice A9 d.rules.length c9, .slice A10 d.exc.length c10] 39) := ⟨_, rfl⟩
 rw [← hW0] at hr2 hp2 hb2 ⊢
 have HR2 := jA hr2
 have HP2 := jA hp2
 have HB2 := jA hb2
 clear hr2 hp2 hb2 hW0
 have hld : ∀ (j : Nat) (v : Value), (#[.slice F0 (d.acts.length + 1) f0, .slice F1 (d.subs.length + 1) f1, .slice F2 (d.roles.length + 1) f2, .slice F3 (d.objs.length + 1) f3, .slice F4 (d.grps.length + 1) f4, .slice F5 (d.mem.length + 1) f5, .slice F6 (d.inh.length + 1) f6, .slice F7 (d.par.length + 1) f7, .slice F8 (d.wit.length + 1) f8, .slice F9 (d.rules.length + 1) f9, .slice F10 (d.exc.length + 1) f10] : Array Value).toList[j]? = some v → W0.cell? ((⟨w.heap.size, 11, none⟩ : Addr).add j) = some v := by
  intro j v hj
  have hlt : j < 11 := by have := (List.getElem?_eq_some_iff.1 hj).1; simpa using this
  have h := HR2.out.cell (11 + j)
  rw [show (⟨w.heap.size, 11, none⟩ : Addr).add j = ⟨w.heap.size, 11 + j, none⟩ by simp [Addr.add], h, ← hj]
  have hc : j = 0 ∨ j = 1 ∨ j = 2 ∨ j = 3 ∨ j = 4 ∨ j = 5 ∨ j = 6 ∨ j = 7 ∨ j = 8 ∨ j = 9 ∨ j = 10 := by omega
  rcases hc with rfl | rfl | rfl | rfl | rfl | rfl | rfl | rfl | rfl | rfl | rfl <;> rfl
 have HLD := jA hld
 clear hld
 go_upto_region 2 with (first | ((with_reducible refine gate_dst (N := 14) rfl ?_); refine wpList_load_at rfl 39 (.tmp 13) rfl ⟨w.heap.size, 11, none⟩ ?hx1 (#[.slice F0 (d.acts.length + 1) f0, .slice F1 (d.subs.length + 1) f1, .slice F2 (d.roles.length + 1) f2, .slice F3 (d.objs.length + 1) f3, .slice F4 (d.grps.length + 1) f4, .slice F5 (d.mem.length + 1) f5, .slice F6 (d.inh.length + 1) f6, .slice F7 (d.par.length + 1) f7, .slice F8 (d.wit.length + 1) f8, .slice F9 (d.rules.length + 1) f9, .slice F10 (d.exc.length + 1) f10] : Array Value).toList HLD.out _ Try.underlying39 rfl (by kernel_rfl) ?_; (case hx1 => rfl)) | ((with_reducible refine gate_dst (N := 5) rfl ?_); refine wpList_alloc_store rfl rfl 39 5 (.tmp 14) rfl rfl rfl #[.slice none 0 0, .slice none 0 0, .slice none 0 0, .slice none 0 0, .slice none 0 0, .slice none 0 0, .slice none 0 0, .slice none 0 0, .slice none 0 0, .slice none 0 0, .slice none 0 0] #[.slice F0 (d.acts.length + 1) f0, .slice F1 (d.subs.length + 1) f1, .slice F2 (d.roles.length + 1) f2, .slice F3 (d.objs.length + 1) f3, .slice F4 (d.grps.length + 1) f4, .slice F5 (d.mem.length + 1) f5, .slice F6 (d.inh.length + 1) f6, .slice F7 (d.par.length + 1) f7, .slice F8 (d.wit.length + 1) f8, .slice F9 (d.rules.length + 1) f9, .slice F10 (d.exc.length + 1) f10] _ (z39 _) rfl (by kernel_rfl) rfl (by simp [Value.oneCell']) rfl rfl ?_))
 have hf5 : Stays (W0.alloc (.cells #[.slice F0 (d.acts.length + 1) f0, .slice F1 (d.subs.length + 1) f1, .slice F2 (d.roles.length + 1) f2, .slice F3 (d.objs.length + 1) f3, .slice F4 (d.grps.length + 1) f4, .slice F5 (d.mem.length + 1) f5, .slice F6 (d.inh.length + 1) f6, .slice F7 (d.par.length + 1) f7, .slice F8 (d.wit.length + 1) f8, .slice F9 (d.rules.length + 1) f9, .slice F10 (d.exc.length + 1) f10] 39)) W0.heap.size #[.slice F0 (d.acts.length + 1) f0, .slice F1 (d.subs.length + 1) f1, .slice F2 (d.roles.length + 1) f2, .slice F3 (d.objs.length + 1) f3, .slice F4 (d.grps.length + 1) f4, .slice F5 (d.mem.length + 1) f5, .slice F6 (d.inh.length + 1) f6, .slice F7 (d.par.length + 1) f7, .slice F8 (d.wit.length + 1) f8, .slice F9 (d.rules.length + 1) f9, .slice F10 (d.exc.length + 1) f10] 39 := heap_alloc_new W0 _
 have hb5 := below_alloc (Below.refl _ W0) (.cells #[.slice F0 (d.acts.length + 1) f0, .slice F1 (d.subs.length + 1) f1, .slice F2 (d.roles.length + 1) f2, .slice F3 (d.objs.length + 1) f3, .slice F4 (d.grps.length + 1) f4, .slice F5 (d.mem.length + 1) f5, .slice F6 (d.inh.length + 1) f6, .slice F7 (d.par.length + 1) f7, .slice F8 (d.wit.length + 1) f8, .slice F9 (d.rules.length + 1) f9, .slice F10 (d.exc.length + 1) f10] 39)
 have hU : Uw w W0.heap.size #[.slice G0 d.acts.length h0, .slice G1 d.subs.length h1, .slice G2 d.roles.length h2, .slice G3 d.objs.length h3, .slice G4 d.grps.length h4, .slice G5 d.mem.length h5, .slice G6 d.inh.length h6, .slice G7 d.par.length h7, .slice G8 d.wit.length h8, .slice G9 d.rules.length h9, .slice G10 d.exc.length h10, .slice F0 (d.acts.length + 1) f0, .slice F1 (d.subs.length + 1) f1, .slice F2 (d.roles.length + 1) f2, .slice F3 (d.objs.length + 1) f3, .slice F4 (d.grps.length + 1) f4, .slice F5 (d.mem.length + 1) f5, .slice F6 (d.inh.length + 1) f6, .slice F7 (d.par.length + 1) f7, .slice F8 (d.wit.length + 1) f8, .slice F9 (d.rules.length + 1) f9, .slice F10 (d.exc.length + 1) f10, .slice AL d.rules.length cL] #[.slice A0 d.acts.length c0, .slice A1 d.subs.length c1, .slice A2 d.roles.length c2, .slice A3 d.objs.length c3, .slice A4 d.grps.length c4, .slice A5 d.mem.length c5, .slice A6 d.inh.length c6, .slice A7 d.par.length c7, .slice A8 d.wit.length c8, .slice A9 d.rules.length c9, .slice A10 d.exc.length c10] #[.slice F0 (d.acts.length + 1) f0, .slice F1 (d.subs.length + 1) f1, .slice F2 (d.roles.length + 1) f2, .slice F3 (d.objs.length + 1) f3, .slice F4 (d.grps.length + 1) f4, .slice F5 (d.mem.length + 1) f5, .slice F6 (d.inh.length + 1) f6, .slice F7 (d.par.length + 1) f7, .slice F8 (d.wit.length + 1) f8, .slice F9 (d.rules.length + 1) f9, .slice F10 (d.exc.length + 1) f10] (W0.alloc (.cells #[.slice F0 (d.acts.length + 1) f0, .slice F1 (d.subs.length + 1) f1, .slice F2 (d.roles.length + 1) f2, .slice F3 (d.objs.length + 1) f3, .slice F4 (d.grps.length + 1) f4, .slice F5 (d.mem.length + 1) f5, .slice F6 (d.inh.length + 1) f6, .slice F7 (d.par.length + 1) f7, .slice F8 (d.wit.length + 1) f8, .slice F9 (d.rules.length + 1) f9, .slice F10 (d.exc.length + 1) f10] 39)) := ⟨HR2.out.below hb5, HP2.out.below hb5, hf5, below_then HB2.out HB2.out.size hb5⟩
 clear HR2 HP2 HB2 HLD hf5 hb5
 obtain ⟨g5, hg5⟩ : ∃ g5, g5 = W0.heap.size := ⟨_, rfl⟩
 rw [← hg5] at hU ⊢
 clear hg5
 generalize W0.alloc (.cells #[.slice F0 (d.acts.length + 1) f0, .slice F1 (d.subs.length + 1) f1, .slice F2 (d.roles.length + 1) f2, .slice F3 (d.objs.length + 1) f3, .slice F4 (d.grps.length + 1) f4, .slice F5 (d.mem.length + 1) f5, .slice F6 (d.inh.length + 1) f6, .slice F7 (d.par.length + 1) f7, .slice F8 (d.wit.length + 1) f8, .slice F9 (d.rules.length + 1) f9, .slice F10 (d.exc.length + 1) f10] 39) = W1 at hU ⊢
 have HU := jA hU
 clear hU
 have xf0 := HU.out.full.cell 0
 have xf2 := HU.out.full.cell 2
 have xf3 := HU.out.full.cell 3
 have xf4 := HU.out.full.cell 4
 have xp0 := HU.out.pol.cell 0
 have xp2 := HU.out.pol.cell 2
 have xp3 := HU.out.pol.cell 3
 have xp4 := HU.out.pol.cell 4
 simp only [Jt, Ju, Jv] at xf0 xf2 xf3 xf4 xp0 xp2 xp3 xp4
 go_upto_region 4 with (go_at_call 50; first
  | ((with_reducible refine (long_go F0 A0 f0 c0 d.acts _ HD.out.acts (HR.out _ HU.out.below).x0 (HR.out _ HU.out.below).k0 (HP.out _ HU.out.below).h0 (HP.out _ HU.out.below).l0).mono ?_); rintro e w0 ⟨rfl, hb⟩; have HV0 := jA (HU.out.move hb); clear hb xf0 xp0 xf2 xp2 xf3 xp3 xf4 xp4; have xf2 := HV0.out.full.cell 2; have xp2 := HV0.out.pol.cell 2; have xf3 := HV0.out.full.cell 3; have xp3 := HV0.out.pol.cell 3; have xf4 := HV0.out.full.cell 4; have xp4 := HV0.out.pol.cell 4; simp only [Jt, Ju, Jv] at xf2 xp2 xf3 xp3 xf4 xp4)
  | ((with_reducible refine (long_go F2 A2 f2 c2 d.roles _ HD.out.roles (HR.out _ HV0.out.below).x2 (HR.out _ HV0.out.below).k2 (HP.out _ HV0.out.below).h2 (HP.out _ HV0.out.below).l2).mono ?_); rintro e w2 ⟨rfl, hb⟩; have HV1 := jA (HV0.out.move hb); clear hb xf2 xp2 xf3 xp3 xf4 xp4; have xf3 := HV1.out.full.cell 3; have xp3 := HV1.out.pol.cell 3; have xf4 := HV1.out.full.cell 4; have xp4 := HV1.out.pol.cell 4; simp only [Jt, Ju, Jv] at xf3 xp3 xf4 xp4)
  | ((with_reducible refine (long_go F3 A3 f3 c3 d.objs _ HD.out.objs (HR.out _ HV1.out.below).x3 (HR.out _ HV1.out.below).k3 (HP.out _ HV1.out.below).h3 (HP.out _ HV1.out.below).l3).mono ?_); rintro e w3 ⟨rfl, hb⟩; have HV2 := jA (HV1.out.move hb); clear hb xf3 xp3 xf4 xp4; have xf4 := HV2.out.full.cell 4; have xp4 := HV2.out.pol.cell 4; simp only [Jt, Ju, Jv] at xf4 xp4)
  | ((with_reducible refine (long_go F4 A4 f4 c4 d.grps _ HD.out.grps (HR.out _ HV2.out.below).x4 (HR.out _ HV2.out.below).k4 (HP.out _ HV2.out.below).h4 (HP.out _ HV2.out.below).l4).mono ?_); rintro e w4 ⟨rfl, hb⟩; have HV3 := jA (HV2.out.move hb); clear hb xf4 xp4))
 have xf5 := HV3.out.full.cell 5
 have xf6 := HV3.out.full.cell 6
 have xf7 := HV3.out.full.cell 7
 have xf8 := HV3.out.full.cell 8
 have xp5 := HV3.out.pol.cell 5
 have xp6 := HV3.out.pol.cell 6
 have xp7 := HV3.out.pol.cell 7
 have xp8 := HV3.out.pol.cell 8
 simp only [Jt, Ju, Jv] at xf5 xf6 xf7 xf8 xp5 xp6 xp7 xp8
 go_upto_region 6 with (go_at_call 51; first
  | ((with_reducible refine (pair_go F5 A5 f5 c5 d.mem _ HD.out.mem (HR.out _ HV3.out.below).x5 (HR.out _ HV3.out.below).k5 (HP.out _ HV3.out.below).h5 (HP.out _ HV3.out.below).l5).mono ?_); rintro e w5 ⟨rfl, hb⟩; have HW0 := jA (HV3.out.move hb); clear hb xf5 xp5 xf6 xp6 xf7 xp7 xf8 xp8; have xf6 := HW0.out.full.cell 6; have xp6 := HW0.out.pol.cell 6; have xf7 := HW0.out.full.cell 7; have xp7 := HW0.out.pol.cell 7; have xf8 := HW0.out.full.cell 8; have xp8 := HW0.out.pol.cell 8; simp only [Jt, Ju, Jv] at xf6 xp6 xf7 xp7 xf8 xp8)
  | ((with_reducible refine (pair_go F6 A6 f6 c6 d.inh _ HD.out.inh (HR.out _ HW0.out.below).x6 (HR.out _ HW0.out.below).k6 (HP.out _ HW0.out.below).h6 (HP.out _ HW0.out.below).l6).mono ?_); rintro e w6 ⟨rfl, hb⟩; have HW1 := jA (HW0.out.move hb); clear hb xf6 xp6 xf7 xp7 xf8 xp8; have xf7 := HW1.out.full.cell 7; have xp7 := HW1.out.pol.cell 7; have xf8 := HW1.out.full.cell 8; have xp8 := HW1.out.pol.cell 8; simp only [Jt, Ju, Jv] at xf7 xp7 xf8 xp8)
  | ((with_reducible refine (pair_go F7 A7 f7 c7 d.par _ HD.out.par (HR.out _ HW1.out.below).x7 (HR.out _ HW1.out.below).k7 (HP.out _ HW1.out.below).h7 (HP.out _ HW1.out.below).l7).mono ?_); rintro e w7 ⟨rfl, hb⟩; have HW2 := jA (HW1.out.move hb); clear hb xf7 xp7 xf8 xp8; have xf8 := HW2.out.full.cell 8; have xp8 := HW2.out.pol.cell 8; simp only [Jt, Ju, Jv] at xf8 xp8)
  | ((with_reducible refine (pair_go F8 A8 f8 c8 d.wit _ HD.out.wit (HR.out _ HW2.out.below).x8 (HR.out _ HW2.out.below).k8 (HP.out _ HW2.out.below).h8 (HP.out _ HW2.out.below).l8).mono ?_); rintro e w8 ⟨rfl, hb⟩; have HW3 := jA (HW2.out.move hb); clear hb xf8 xp8))
 clear HU HV0 HV1 HV2 HV3 HW0 HW1 HW2
 have HU := HW3
 clear HW3
 have xp1 := HU.out.pol.cell 1
 simp only [Jt, Ju, Jv] at xp1
 go_upto_region 8 with fail
 clear xp1
 go_loopw [7] (fun u7 wr => ∃ i : Nat, i ≤ d.subs.length ∧ u7 = .int .i64 i ∧ Aside0 (Uw w g5 #[.slice G0 d.acts.length h0, .slice G1 d.subs.length h1, .slice G2 d.roles.length h2, .slice G3 d.objs.length h3, .slice G4 d.grps.length h4, .slice G5 d.mem.length h5, .slice G6 d.inh.length h6, .slice G7 d.par.length h7, .slice G8 d.wit.length h8, .slice G9 d.rules.length h9, .slice G10 d.exc.length h10, .slice F0 (d.acts.length + 1) f0, .slice F1 (d.subs.length + 1) f1, .slice F2 (d.roles.length + 1) f2, .slice F3 (d.objs.length + 1) f3, .slice F4 (d.grps.length + 1) f4, .slice F5 (d.mem.length + 1) f5, .slice F6 (d.inh.length + 1) f6, .slice F7 (d.par.length + 1) f7, .slice F8 (d.wit.length + 1) f8, .slice F9 (d.rules.length + 1) f9, .slice F10 (d.exc.length + 1) f10, .slice AL d.rules.length cL] #[.slice A0 d.acts.length c0, .slice A1 d.subs.length c1, .slice A2 d.roles.length c2, .slice A3 d.objs.length c3, .slice A4 d.grps.length c4, .slice A5 d.mem.length c5, .slice A6 d.inh.length c6, .slice A7 d.par.length c7, .slice A8 d.wit.length c8, .slice A9 d.rules.length c9, .slice A10 d.exc.length c10] #[.slice F0 (d.acts.length + 1) f0, .slice F1 (d.subs.length + 1) f1, .slice F2 (d.roles.length + 1) f2, .slice F3 (d.objs.length + 1) f3, .slice F4 (d.grps.length + 1) f4, .slice F5 (d.mem.length + 1) f5, .slice F6 (d.inh.length + 1) f6, .slice F7 (d.par.length + 1) f7, .slice F8 (d.wit.length + 1) f8, .slice F9 (d.rules.length + 1) f9, .slice F10 (d.exc.length + 1) f10] wr)) (fun u7 _ => d.subs.length - (intOf u7).toNat)
 case atStart => exact ⟨0, by omega, rfl, HU⟩
 case round =>
  clear HU
  obtain ⟨i, hi, rfl, HU⟩ := hrel
  by_cases hlt : i < d.subs.length
  ·have hlt' : ((i : Int) < d.subs.length) := by omega
   have Zl : ((i : Int) < (d.subs.length : Int) + 1) := by omega
   obtain ⟨ad, hF1, hx0, hx1⟩ := at_T54 (show Kd.C k54 wr F1 (d.subs.length + 1) (d.subs ++ ([⟨sh, 0⟩] : List S54)) from (HR.out wr HU.out.below).x1) (i : Int) (by omega) (by omega)
   obtain ⟨bd, hA1, hy0, hy1⟩ := at_T54 (show Kd.C k54 wr A1 d.subs.length d.subs from (HP.out wr HU.out.below).h1) (i : Int) (by omega) (by omega)
   have hq1 : rd_T54 (d.subs ++ ([⟨sh, 0⟩] : List S54)) (i : Int) = d.subs[i] := by simp [rd_T54, List.getD_eq_getElem?_getD, List.getElem?_append_left hlt, hlt]
   have hq2 : rd_T54 d.subs (i : Int) = d.subs[i] := by simp [rd_T54, List.getD_eq_getElem?_getD, hlt]
   rw [hq1] at hx0 hx1
   rw [hq2] at hy0 hy1
   obtain ⟨q, hqq⟩ : ∃ q, q = d.subs[i] := ⟨_, rfl⟩
   rw [← hqq] at hx0 hx1 hy0 hy1
   simp only [Int.toNat_natCast] at hx0 hx1 hy0 hy1
   subst hF1; subst hA1
   have HX0 := jA (show wr.drew.cell? _ = _ from hx0)
   have HX1 := jA (show wr.drew.cell? _ = _ from hx1)
   have HY0 := jA (show wr.drew.cell? _ = _ from hy0)
   have HY1 := jA (show wr.drew.cell? _ = _ from hy1)
   clear hq1 hq2 hqq hx0 hx1 hy0 hy1
   go_upto_region 10 with fail
   as_aux_lemma =>
    refine start_ (n := 29) (S := fun w' => w'.cell? ⟨g5, 1, none⟩ = some (.slice (some ad) (d.subs.length + 1) f1) ∧ w'.cell? ⟨w.heap.size + 1, 1, none⟩ = some (.slice (some bd) d.subs.length c1) ∧ w'.cell? (ad.add (i * 2)) = some (.string q.f0) ∧ w'.cell? ⟨(ad.add (i * 2)).block, (ad.add (i * 2)).off + 1, none⟩ = some (.float .f64 q.f1) ∧ w'.cell? (bd.add (i * 2)) = some (.string q.f0) ∧ w'.cell? ⟨(bd.add (i * 2)).block, (bd.add (i * 2)).off + 1, none⟩ = some (.float .f64 q.f1)) (ds := []) (Jb 29 0) (by kernel_rfl) rfl (by kernel_rfl) ⟨HU.out.full.cell 1, HU.out.pol.cell 1, HX0.out, HX1.out, HY0.out, HY1.out⟩ (fun hHeld => ?_)
    refine Jp 0 83 (Jb 29 1) rfl rfl ?_
    refine Jk 1 84 (Jb 29 3) rfl rfl hHeld (.inl ⟨by rfl, by rintro w' ⟨s0, s1, s2, s3, s4, s5⟩; go_simp; with_reducible rfl⟩) ?_
    refine Jp 2 85 (Jb 29 7) rfl rfl ?_
    refine Jp 3 86 (Jb 29 15) rfl rfl ?_
    refine Jp 4 87 (Jb 29 31) rfl rfl ?_
    refine Jk 5 88 (Jb 29 63) rfl rfl hHeld (.inl ⟨by rfl, by rintro w' ⟨s0, s1, s2, s3, s4, s5⟩; go_simp; with_reducible rfl⟩) ?_
    refine Jp 6 89 (Jb 29 127) rfl rfl ?_
    refine Jk 7 90 (Jb 29 255) rfl rfl hHeld (.inl ⟨by rfl, by rintro w' ⟨s0, s1, s2, s3, s4, s5⟩; go_simp; with_reducible rfl⟩) ?_
    refine Jp 8 91 (Jb 29 511) rfl rfl ?_
    refine Jp 9 92 (Jb 29 1023) rfl rfl ?_
    refine Jp 10 93 (Jb 29 2047) rfl rfl ?_
    refine Jk 11 94 (Jb 29 4095) rfl rfl hHeld (.inl ⟨by rfl, by rintro w' ⟨s0, s1, s2, s3, s4, s5⟩; go_simp; with_reducible rfl⟩) ?_
    refine Jp 12 95 (Jb 29 8191) rfl rfl ?_
    refine Jp 13 96 (Jb 29 16383) rfl rfl ?_
    refine Jp 14 97 (Jb 29 32767) rfl rfl ?_
    refine Jk 15 98 (Jb 29 65535) rfl rfl hHeld (.inl ⟨by rfl, by rintro w' ⟨s0, s1, s2, s3, s4, s5⟩; go_simp; with_reducible rfl⟩) ?_
    refine Jp 16 99 (Jb 29 131071) rfl rfl ?_
    refine Jp 17 100 (Jb 29 262143) rfl rfl ?_
    refine Jp 18 101 (Jb 29 524287) rfl rfl ?_
    refine Jk 19 102 (Jb 29 1048575) rfl rfl hHeld (.inl ⟨by rfl, by rintro w' ⟨s0, s1, s2, s3, s4, s5⟩; go_simp; with_reducible rfl⟩) ?_
    refine Jp 20 103 (Jb 29 2097151) rfl rfl ?_
    refine Jk 21 104 (Jb 29 4194303) rfl rfl hHeld (.inl ⟨by rfl, by rintro w' ⟨s0, s1, s2, s3, s4, s5⟩; go_simp; with_reducible rfl⟩) ?_
    refine Jp 22 105 (Jb 29 8388607) rfl rfl ?_
    refine Jp 23 106 (Jb 29 16777215) rfl rfl ?_
    refine Jp 24 107 (Jb 29 33554431) rfl rfl ?_
    refine Jk 25 108 (Jb 29 67108863) rfl rfl hHeld (.inl ⟨by rfl, by rintro w' ⟨s0, s1, s2, s3, s4, s5⟩; go_simp; with_reducible rfl⟩) ?_
    refine one_ (i := 26) (N := some 109) (Jb 29 134217727) rfl rfl (by kernel_rfl) (by decide) (fun K hK => ?_)
    refine goes_ Try.func52 (by kernel_rfl) rfl #[.float .f64 q.f1, .float .f64 q.f1] (by rfl) rfl rfl (by (try simp only [List.map_toArray, List.map_cons, List.map_nil]); first | done | rfl) ?_
    refine (equals_go q.f1 _).mono ?_
    rintro e W1 ⟨rfl, hb1⟩
    refine ⟨_, rfl, ?_⟩
    have hb2 : Below wr.heap.size wr W1 := below_then (below_drew (Below.refl wr.heap.size wr)) (Nat.le_refl _) hb1
    have HU1 := jA (HU.out.move hb2)
    have hh := And.intro (HU1.out.full.cell 1) (And.intro (HU1.out.pol.cell 1) (And.intro (pw_cell_below hb2 HX0.out) (And.intro (pw_cell_below hb2 HX1.out) (And.intro (pw_cell_below hb2 HY0.out) (pw_cell_below hb2 HY1.out)))))
    clear hb1 hb2
    refine hK.out _ _ hh (fun hHeld => ?_)
    clear hK K hh
    refine norm_ (a' := ?_) ?_ ?_; rotate_left; (show Act.put _ (some 109) _ = _; simp only [Act.put, Jq, Jr, Js]; rfl)
    refine Jp 27 110 (Jb 29 268435455) rfl rfl ?_
    refine Jp 28 111 (Jb 29 536870911) rfl rfl ?_
    refine done_ (by kernel_rfl) ?_
    clear hHeld
    go_wp2
    exact round_end hlt (by have := HD.out.subs; omega) (fun hq => ⟨i + 1, by omega, hq, HU1⟩)
  ·have hil : i = d.subs.length := by omega
   have hlt' : ¬ ((i : Int) < d.subs.length) := by omega
   clear hlt hi
   have Zb := HU.out.pol.cell 10
   simp only [Jt, Ju, Jv] at Zb
   go_upto_region 13 with fail
   clear Zb hil hlt'
   go_loopw [8] (fun u8 wr => ∃ i : Nat, i ≤ d.exc.length ∧ u8 = .int .i64 i ∧ Aside0 (Uw w g5 #[.slice G0 d.acts.length h0, .slice G1 d.subs.length h1, .slice G2 d.roles.length h2, .slice G3 d.objs.length h3, .slice G4 d.grps.length h4, .slice G5 d.mem.length h5, .slice G6 d.inh.length h6, .slice G7 d.par.length h7, .slice G8 d.wit.length h8, .slice G9 d.rules.length h9, .slice G10 d.exc.length h10, .slice F0 (d.acts.length + 1) f0, .slice F1 (d.subs.length + 1) f1, .slice F2 (d.roles.length + 1) f2, .slice F3 (d.objs.length + 1) f3, .slice F4 (d.grps.length + 1) f4, .slice F5 (d.mem.length + 1) f5, .slice F6 (d.inh.length + 1) f6, .slice F7 (d.par.length + 1) f7, .slice F8 (d.wit.length + 1) f8, .slice F9 (d.rules.length + 1) f9, .slice F10 (d.exc.length + 1) f10, .slice AL d.rules.length cL] #[.slice A0 d.acts.length c0, .slice A1 d.subs.length c1, .slice A2 d.roles.length c2, .slice A3 d.objs.length c3, .slice A4 d.grps.length c4, .slice A5 d.mem.length c5, .slice A6 d.inh.length c6, .slice A7 d.par.length c7, .slice A8 d.wit.length c8, .slice A9 d.rules.length c9, .slice A10 d.exc.length c10] #[.slice F0 (d.acts.length + 1) f0, .slice F1 (d.subs.length + 1) f1, .slice F2 (d.roles.length + 1) f2, .slice F3 (d.objs.length + 1) f3, .slice F4 (d.grps.length + 1) f4, .slice F5 (d.mem.length + 1) f5, .slice F6 (d.inh.length + 1) f6, .slice F7 (d.par.length + 1) f7, .slice F8 (d.wit.length + 1) f8, .slice F9 (d.rules.length + 1) f9, .slice F10 (d.exc.length + 1) f10] wr)) (fun u8 _ => d.exc.length - (intOf u8).toNat)
   case atStart => exact ⟨0, by omega, rfl, HU⟩
   case round =>
    clear HU
    obtain ⟨i, hi, rfl, HU⟩ := hrel
    have Zb := HU.out.pol.cell 10
    simp only [Jt, Ju, Jv] at Zb
    by_cases hlt : i < d.exc.length
    ·have hlt' : ((i : Int) < d.exc.length) := by omega
     have Zl : ((i : Int) < (d.exc.length : Int) + 1) := by omega
     obtain ⟨ad, hF1, hx0, hx1, hx2⟩ := at_T28 (show Kd.C k28 wr F10 (d.exc.length + 1) (d.exc ++ ([⟨sh, e0, e0⟩] : List S28)) from (HR.out wr HU.out.below).x10) (i : Int) (by omega) (by omega)
     obtain ⟨bd, hA1, hy0, hy1, hy2⟩ := at_T28 (show Kd.C k28 wr A10 d.exc.length d.exc from (HP.out wr HU.out.below).h10) (i : Int) (by omega) (by omega)
     have hq1 : rd_T28 (d.exc ++ ([⟨sh, e0, e0⟩] : List S28)) (i : Int) = d.exc[i] := by simp [rd_T28, List.getD_eq_getElem?_getD, List.getElem?_append_left hlt, hlt]
     have hq2 : rd_T28 d.exc (i : Int) = d.exc[i] := by simp [rd_T28, List.getD_eq_getElem?_getD, hlt]
     rw [hq1] at hx0 hx1 hx2
     rw [hq2] at hy0 hy1 hy2
     obtain ⟨q, hqq⟩ : ∃ q, q = d.exc[i] := ⟨_, rfl⟩
     rw [← hqq] at hx0 hx1 hx2 hy0 hy1 hy2
     simp only [Int.toNat_natCast] at hx0 hx1 hx2 hy0 hy1 hy2
     subst hF1; subst hA1
     have HX0 := jA (show wr.drew.cell? _ = _ from hx0)
     have HX1 := jA (show wr.drew.cell? _ = _ from hx1)
     have HX2 := jA (show wr.drew.cell? _ = _ from hx2)
     have HY0 := jA (show wr.drew.cell? _ = _ from hy0)
     have HY1 := jA (show wr.drew.cell? _ = _ from hy1)
     have HY2 := jA (show wr.drew.cell? _ = _ from hy2)
     clear hq1 hq2 hqq hx0 hx1 hx2 hy0 hy1 hy2
     go_upto_region 15 with fail
     refine start_ (n := 11) (S := fun w' => w'.cell? ⟨g5, 10, none⟩ = some (.slice (some ad) (d.exc.length + 1) f10) ∧ w'.cell? ⟨w.heap.size + 1, 10, none⟩ = some (.slice (some bd) d.exc.length c10) ∧ w'.cell? (ad.add (i * 3)) = some (.string q.f0) ∧ w'.cell? ⟨(ad.add (i * 3)).block, (ad.add (i * 3)).off + 1, none⟩ = some (.string q.f1) ∧ w'.cell? ⟨(ad.add (i * 3)).block, (ad.add (i * 3)).off + 2, none⟩ = some (.string q.f2) ∧ w'.cell? (bd.add (i * 3)) = some (.string q.f0) ∧ w'.cell? ⟨(bd.add (i * 3)).block, (bd.add (i * 3)).off + 1, none⟩ = some (.string q.f1) ∧ w'.cell? ⟨(bd.add (i * 3)).block, (bd.add (i * 3)).off + 2, none⟩ = some (.string q.f2)) (ds := []) (Jb 11 0) (by kernel_rfl) rfl (by kernel_rfl) ⟨HU.out.full.cell 10, HU.out.pol.cell 10, HX0.out, HX1.out, HX2.out, HY0.out, HY1.out, HY2.out⟩ (fun hHeld => ?_)
     refine Jp 0 119 (Jb 11 1) rfl rfl ?_
     refine Jk 1 120 (Jb 11 3) rfl rfl hHeld (.inl ⟨by rfl, by rintro w' ⟨s0, s1, s2, s3, s4, s5, s6, s7⟩; go_simp; with_reducible rfl⟩) ?_
     refine Jp 2 121 (Jb 11 7) rfl rfl ?_
     refine Jp 3 122 (Jb 11 15) rfl rfl ?_
     refine Jk 4 123 (Jb 11 31) rfl rfl hHeld (.inl ⟨by rfl, by rintro w' ⟨s0, s1, s2, s3, s4, s5, s6, s7⟩; go_simp; with_reducible rfl⟩) ?_
     refine Jp 5 124 (Jb 11 63) rfl rfl ?_
     refine Jk 6 125 (Jb 11 127) rfl rfl hHeld (.inl ⟨by rfl, by rintro w' ⟨s0, s1, s2, s3, s4, s5, s6, s7⟩; go_simp; with_reducible rfl⟩) ?_
     refine Jp 7 126 (Jb 11 255) rfl rfl ?_
     refine Jp 8 127 (Jb 11 511) rfl rfl ?_
     refine Jk 9 128 (Jb 11 1023) rfl rfl hHeld (.inl ⟨by rfl, by rintro w' ⟨s0, s1, s2, s3, s4, s5, s6, s7⟩; go_simp; with_reducible rfl⟩) ?_
     refine Jp 10 129 (Jb 11 2047) rfl rfl ?_
     refine done_ (by kernel_rfl) ?_
     clear hHeld
     have HU1 := jA (HU.out.move (below_drew (Below.refl wr.heap.size wr)))
     go_wp2
     exact round_end hlt (by have := HD.out.exc; omega) (fun hq => ⟨i + 1, by omega, hq, HU1⟩)
    ·have hil : i = d.exc.length := by omega
     have hlt' : ¬ ((i : Int) < d.exc.length) := by omega
     clear hlt hi
     go_upto_region 17 with fail
     clear Zb hil hlt'
     have xf1 := HU.out.full.cell 1
     have Zm := HU.out.full.cell 10
     have Zb := HU.out.pol.cell 10
     simp only [Jt, Ju, Jv] at xf1 Zm Zb
     obtain ⟨aF1, hF1, hx0, hx1⟩ := at_T54 (show Kd.C k54 wr F1 (d.subs.length + 1) (d.subs ++ ([⟨sh, 0⟩] : List S54)) from (HR.out wr HU.out.below).x1) (d.subs.length : Int) (by omega) (by omega)
     obtain ⟨Zn, Zw, hy0, hy1, hy2⟩ := at_T28 (show Kd.C k28 wr F10 (d.exc.length + 1) (d.exc ++ ([⟨sh, e0, e0⟩] : List S28)) from (HR.out wr HU.out.below).x10) (d.exc.length : Int) (by omega) (by omega)
     have hq1 : rd_T54 (d.subs ++ ([⟨sh, 0⟩] : List S54)) (d.subs.length : Int) = ⟨sh, 0⟩ := by simp [rd_T54, List.getD_eq_getElem?_getD]
     have hq2 : rd_T28 (d.exc ++ ([⟨sh, e0, e0⟩] : List S28)) (d.exc.length : Int) = ⟨sh, e0, e0⟩ := by simp [rd_T28, List.getD_eq_getElem?_getD]
     rw [hq1] at hx0 hx1
     rw [hq2] at hy0 hy1 hy2
     simp only [Int.toNat_natCast] at hx0 hx1 hy0 hy1 hy2
     subst hF1; subst Zw
     have hl1 : ((d.subs.length : Int) < (d.subs.length : Int) + 1) := by omega
     have hl2 : ((d.exc.length : Int) < (d.exc.length : Int) + 1) := by omega
     have hneq : ∀ w : World, (binOp .neq 54 (.agg #[.string ⟨#[35]⟩, .float .f64 0]) (.agg #[.string ⟨#[35]⟩, .float .f64 0])).run Try.prog w = .ok (.bool false) w := fun w => by kernel_rfl
     clear hq1 hq2
     go_upto_region 20 with fail
     clear hx0 hx1 hy0 hy1 hy2 hl1 hl2 hneq xf1 Zm Zb
     go_loopw [9] (fun u9 wr => ∃ i : Nat, i ≤ d.rules.length ∧ u9 = .int .i64 i ∧ Aside0 (Uw w g5 #[.slice G0 d.acts.length h0, .slice G1 d.subs.length h1, .slice G2 d.roles.length h2, .slice G3 d.objs.length h3, .slice G4 d.grps.length h4, .slice G5 d.mem.length h5, .slice G6 d.inh.length h6, .slice G7 d.par.length h7, .slice G8 d.wit.length h8, .slice G9 d.rules.length h9, .slice G10 d.exc.length h10, .slice F0 (d.acts.length + 1) f0, .slice (some aF1) (d.subs.length + 1) f1, .slice F2 (d.roles.length + 1) f2, .slice F3 (d.objs.length + 1) f3, .slice F4 (d.grps.length + 1) f4, .slice F5 (d.mem.length + 1) f5, .slice F6 (d.inh.length + 1) f6, .slice F7 (d.par.length + 1) f7, .slice F8 (d.wit.length + 1) f8, .slice F9 (d.rules.length + 1) f9, .slice (some Zn) (d.exc.length + 1) f10, .slice AL d.rules.length cL] #[.slice A0 d.acts.length c0, .slice A1 d.subs.length c1, .slice A2 d.roles.length c2, .slice A3 d.objs.length c3, .slice A4 d.grps.length c4, .slice A5 d.mem.length c5, .slice A6 d.inh.length c6, .slice A7 d.par.length c7, .slice A8 d.wit.length c8, .slice A9 d.rules.length c9, .slice A10 d.exc.length c10] #[.slice F0 (d.acts.length + 1) f0, .slice (some aF1) (d.subs.length + 1) f1, .slice F2 (d.roles.length + 1) f2, .slice F3 (d.objs.length + 1) f3, .slice F4 (d.grps.length + 1) f4, .slice F5 (d.mem.length + 1) f5, .slice F6 (d.inh.length + 1) f6, .slice F7 (d.par.length + 1) f7, .slice F8 (d.wit.length + 1) f8, .slice F9 (d.rules.length + 1) f9, .slice (some Zn) (d.exc.length + 1) f10] wr)) (fun u9 _ => d.rules.length - (intOf u9).toNat)
     case atStart => exact ⟨0, by omega, rfl, HU⟩
     case round =>
      clear HU
      obtain ⟨i, hi, rfl, HU⟩ := hrel
      have xp9 := HU.out.pol.cell 9
      simp only [Jt, Ju, Jv] at xp9
      by_cases hlt : i < d.rules.length
      ·have hlt' : ((i : Int) < d.rules.length) := by omega
       have Zl : ((i : Int) < (d.rules.length : Int) + 1) := by omega
       obtain ⟨ad, Ra, ra, hF9, x0, x1, x2, x3, x4, x5, hka, hca⟩ := at_T78 (show Kd.C k78 wr F9 (d.rules.length + 1) (d.rules ++ ([⟨false, sh, e0, [], 0, 0⟩] : List S78)) from (HR.out wr HU.out.below).x9) (i : Int) (by omega) (by omega)
       obtain ⟨bd, Rb, rb, hA9, y0, y1, y2, y3, y4, y5, hkb, hcb⟩ := at_T78 (show Kd.C k78 wr A9 d.rules.length d.rules from (HP.out wr HU.out.below).h9) (i : Int) (by omega) (by omega)
       obtain ⟨la, lc, hAL, hlcl, hlK, hlcc⟩ := Kd.C_get (show Kd.C (Kd.slice 9 Kd.string) wr AL d.rules.length (d.rules.map (fun x => x.f3 ++ [sh])) from (HR.out wr HU.out.below).xl) [] (i : Int) (by omega) (by omega)
       have hq1 : rd_T78 (d.rules ++ ([⟨false, sh, e0, [], 0, 0⟩] : List S78)) (i : Int) = d.rules[i] := by simp [rd_T78, List.getD_eq_getElem?_getD, List.getElem?_append_left hlt, hlt]
       have hq2 : rd_T78 d.rules (i : Int) = d.rules[i] := by simp [rd_T78, List.getD_eq_getElem?_getD, hlt]
       have hq3 : (d.rules.map (fun x => x.f3 ++ [sh])).getD (i : Int).toNat [] = d.rules[i].f3 ++ [sh] := by simp [List.getD_eq_getElem?_getD, hlt]
       rw [hq1] at x0 x1 x2 x3 x4 x5 hka hca
       rw [hq2] at y0 y1 y2 y3 y4 y5 hkb hcb
       rw [hq3] at hlK
       have hlr := HD.out.each d.rules[i] (List.getElem_mem hlt)
       obtain ⟨r, hrr⟩ : ∃ r, r = d.rules[i] := ⟨_, rfl⟩
       rw [← hrr] at x0 x1 x2 x3 x4 x5 hka hca y0 y1 y2 y3 y4 y5 hkb hcb hlK hlr
       obtain ⟨Li, li, hlv, hll, hlC⟩ := hlK
       subst hlv
       have hx := hlcc 0 _ rfl
       simp only [Int.toNat_natCast, show (Kd.slice 9 Kd.string).sz = 1 from rfl, Nat.mul_one, Nat.add_zero, List.length_append, List.length_singleton] at hx hll hlC
       simp only [Int.toNat_natCast] at x0 x1 x2 x3 x4 x5 y0 y1 y2 y3 y4 y5
       subst hF9; subst hA9; subst hAL
       have HKL := jA hll
       have Zo := jA hlC
       have Zp := jA hx
       have HKB := jA hkb
       have Zq := jA hcb
       have HRL := jA hlr
       clear hq1 hq2 hq3 hrr hlcc hlcl hll hlC hx hkb hcb hlr hka hca
       have xf9 := HU.out.full.cell 9
       have xp9 := HU.out.pol.cell 9
       simp only [Jt, Ju, Jv] at xf9 xp9
       go_upto_region 23 with (first | ((with_reducible refine gate_dst (N := 10) rfl ?_); refine wpList_alloc_store rfl rfl 78 10 (.tmp 159) rfl rfl rfl #[.bool false, .string ⟨#[]⟩, .string ⟨#[]⟩, .slice none 0 0, .int .i8 0, .float .f64 0] #[.bool r.f0, .string r.f1, .string r.f2, .slice Ra r.f3.length ra, .int .i8 r.f4, .float .f64 r.f5] _ (z78 _) rfl (by kernel_rfl) rfl (by simp [Value.oneCell']) rfl rfl ?_))
       clear x0 x1 x2 x3 x4 x5 xf9 xp9
       have hbA := below_alloc (Below.refl _ wr) (.cells #[.bool r.f0, .string r.f1, .string r.f2, .slice Ra r.f3.length ra, .int .i8 r.f4, .float .f64 r.f5] 78)
       have hgA : Stays (wr.alloc (.cells #[.bool r.f0, .string r.f1, .string r.f2, .slice Ra r.f3.length ra, .int .i8 r.f4, .float .f64 r.f5] 78)) wr.heap.size #[.bool r.f0, .string r.f1, .string r.f2, .slice Ra r.f3.length ra, .int .i8 r.f4, .float .f64 r.f5] 78 := heap_alloc_new wr _
       have hU2 := HU.out.move hbA
       have Ze := pw_cell_below hbA Zp.out
       have Zf := Kd.C_below Zo.out hbA
       have Zg := Kd.C_below Zq.out hbA
       replace y0 := pw_cell_below hbA y0
       replace y1 := pw_cell_below hbA y1
       replace y2 := pw_cell_below hbA y2
       replace y3 := pw_cell_below hbA y3
       replace y4 := pw_cell_below hbA y4
       replace y5 := pw_cell_below hbA y5
       obtain ⟨g10, Zr⟩ : ∃ g10, g10 = wr.heap.size := ⟨_, rfl⟩
       rw [← Zr] at hgA ⊢
       clear hbA HU Zp Zo Zq Zr
       generalize wr.alloc (.cells #[.bool r.f0, .string r.f1, .string r.f2, .slice Ra r.f3.length ra, .int .i8 r.f4, .float .f64 r.f5] 78) = wr at hgA hU2 Ze Zf Zg y0 y1 y2 y3 y4 y5 ⊢
       have Za := jA hgA
       have HU := jA hU2
       have HLX := jA Ze
       have HCL := jA Zf
       have HCB := jA Zg
       clear hgA hU2 Ze Zf Zg
       have xp9 := HU.out.pol.cell 9
       simp only [Jt, Ju, Jv] at xp9
       go_upto_region 24 with (first | ((with_reducible refine gate_dst (N := 11) rfl ?_); refine wpList_alloc_store rfl rfl 78 11 (.tmp 164) rfl rfl rfl #[.bool false, .string ⟨#[]⟩, .string ⟨#[]⟩, .slice none 0 0, .int .i8 0, .float .f64 0] #[.bool r.f0, .string r.f1, .string r.f2, .slice Rb r.f3.length rb, .int .i8 r.f4, .float .f64 r.f5] _ (z78 _) rfl (by kernel_rfl) rfl (by simp [Value.oneCell']) rfl rfl ?_))
       clear y0 y1 y2 y3 y4 y5 xp9
       have hbB := below_alloc (Below.refl _ wr) (.cells #[.bool r.f0, .string r.f1, .string r.f2, .slice Rb r.f3.length rb, .int .i8 r.f4, .float .f64 r.f5] 78)
       have hgB : Stays (wr.alloc (.cells #[.bool r.f0, .string r.f1, .string r.f2, .slice Rb r.f3.length rb, .int .i8 r.f4, .float .f64 r.f5] 78)) wr.heap.size #[.bool r.f0, .string r.f1, .string r.f2, .slice Rb r.f3.length rb, .int .i8 r.f4, .float .f64 r.f5] 78 := heap_alloc_new wr _
       have hgA := Za.out.below hbB
       have hU2 := HU.out.move hbB
       have Ze := pw_cell_below hbB HLX.out
       have Zf := Kd.C_below HCL.out hbB
       have Zg := Kd.C_below HCB.out hbB
       obtain ⟨g11, Zs⟩ : ∃ g11, g11 = wr.heap.size := ⟨_, rfl⟩
       rw [← Zs] at hgB ⊢
       clear hbB HU Za HLX HCL HCB Zs
       generalize wr.alloc (.cells #[.bool r.f0, .string r.f1, .string r.f2, .slice Rb r.f3.length rb, .int .i8 r.f4, .float .f64 r.f5] 78) = wr at hgA hgB hU2 Ze Zf Zg ⊢
       have Za := jA hgA
       have Zh := jA hgB
       have HU := jA hU2
       have HLX := jA Ze
       have HCL := jA Zf
       have HCB := jA Zg
       clear hgA hgB hU2 Ze Zf Zg
       as_aux_lemma =>
        refine start_ (n := 54) (S := fun w' => w'.cell? ⟨g10, 0, none⟩ = some (.bool r.f0) ∧ w'.cell? ⟨g10, 1, none⟩ = some (.string r.f1) ∧ w'.cell? ⟨g10, 2, none⟩ = some (.string r.f2) ∧ w'.cell? ⟨g10, 3, none⟩ = some (.slice Ra r.f3.length ra) ∧ w'.cell? ⟨g10, 4, none⟩ = some (.int .i8 r.f4) ∧ w'.cell? ⟨g10, 5, none⟩ = some (.float .f64 r.f5) ∧ w'.cell? ⟨g11, 0, none⟩ = some (.bool r.f0) ∧ w'.cell? ⟨g11, 1, none⟩ = some (.string r.f1) ∧ w'.cell? ⟨g11, 2, none⟩ = some (.string r.f2) ∧ w'.cell? ⟨g11, 3, none⟩ = some (.slice Rb r.f3.length rb) ∧ w'.cell? ⟨g11, 4, none⟩ = some (.int .i8 r.f4) ∧ w'.cell? ⟨g11, 5, none⟩ = some (.float .f64 r.f5) ∧ w'.cell? ⟨w.heap.size, 22, none⟩ = some (.slice (some la) d.rules.length cL) ∧ w'.cell? (la.add i) = some (.slice Li (r.f3.length + 1) li)) (ds := []) (Jb 54 0) (by kernel_rfl) rfl (by kernel_rfl) ⟨Za.out.cell 0, Za.out.cell 1, Za.out.cell 2, Za.out.cell 3, Za.out.cell 4, Za.out.cell 5, Zh.out.cell 0, Zh.out.cell 1, Zh.out.cell 2, Zh.out.cell 3, Zh.out.cell 4, Zh.out.cell 5, HU.out.room.cell 22, HLX.out⟩ (fun hHeld => ?_)
        refine Jp 0 165 (Jb 54 1) rfl rfl ?_
        refine Jk 1 166 (Jb 54 3) rfl rfl hHeld (.inl ⟨by rfl, by rintro w' ⟨s0, s1, s2, s3, s4, s5, s6, s7, s8, s9, s10, s11, s12, s13⟩; go_simp; with_reducible rfl⟩) ?_
        refine Jp 2 167 (Jb 54 7) rfl rfl ?_
        refine Jk 3 168 (Jb 54 15) rfl rfl hHeld (.inl ⟨by rfl, by rintro w' ⟨s0, s1, s2, s3, s4, s5, s6, s7, s8, s9, s10, s11, s12, s13⟩; go_simp; with_reducible rfl⟩) ?_
        refine Jp 4 169 (Jb 54 31) rfl rfl ?_
        refine Jp 5 170 (Jb 54 63) rfl rfl ?_
        refine Jp 6 171 (Jb 54 127) rfl rfl ?_
        refine Jk 7 172 (Jb 54 255) rfl rfl hHeld (.inl ⟨by rfl, by rintro w' ⟨s0, s1, s2, s3, s4, s5, s6, s7, s8, s9, s10, s11, s12, s13⟩; go_simp; with_reducible rfl⟩) ?_
        refine Jp 8 173 (Jb 54 511) rfl rfl ?_
        refine Jk 9 174 (Jb 54 1023) rfl rfl hHeld (.inl ⟨by rfl, by rintro w' ⟨s0, s1, s2, s3, s4, s5, s6, s7, s8, s9, s10, s11, s12, s13⟩; go_simp; with_reducible rfl⟩) ?_
        refine Jp 10 175 (Jb 54 2047) rfl rfl ?_
        refine Jp 11 176 (Jb 54 4095) rfl rfl ?_
        refine Jp 12 177 (Jb 54 8191) rfl rfl ?_
        refine Jp 13 178 (Jb 54 16383) rfl rfl ?_
        refine Jk 14 179 (Jb 54 32767) rfl rfl hHeld (.inl ⟨by rfl, by rintro w' ⟨s0, s1, s2, s3, s4, s5, s6, s7, s8, s9, s10, s11, s12, s13⟩; go_simp; with_reducible rfl⟩) ?_
        refine Jp 15 180 (Jb 54 65535) rfl rfl ?_
        refine Jk 16 181 (Jb 54 131071) rfl rfl hHeld (.inl ⟨by rfl, by rintro w' ⟨s0, s1, s2, s3, s4, s5, s6, s7, s8, s9, s10, s11, s12, s13⟩; go_simp; with_reducible rfl⟩) ?_
        refine Jp 17 182 (Jb 54 262143) rfl rfl ?_
        refine Jp 18 183 (Jb 54 524287) rfl rfl ?_
        refine Jp 19 184 (Jb 54 1048575) rfl rfl ?_
        refine Jp 20 185 (Jb 54 2097151) rfl rfl ?_
        refine Jk 21 186 (Jb 54 4194303) rfl rfl hHeld (.inl ⟨by rfl, by rintro w' ⟨s0, s1, s2, s3, s4, s5, s6, s7, s8, s9, s10, s11, s12, s13⟩; go_simp; with_reducible rfl⟩) ?_
        refine Jp 22 187 (Jb 54 8388607) rfl rfl ?_
        refine Jk 23 188 (Jb 54 16777215) rfl rfl hHeld (.inl ⟨by rfl, by rintro w' ⟨s0, s1, s2, s3, s4, s5, s6, s7, s8, s9, s10, s11, s12, s13⟩; go_simp; with_reducible rfl⟩) ?_
        refine Jp 24 189 (Jb 54 33554431) rfl rfl ?_
        refine Jp 25 190 (Jb 54 67108863) rfl rfl ?_
        refine Jp 26 191 (Jb 54 134217727) rfl rfl ?_
        refine Jp 27 192 (Jb 54 268435455) rfl rfl ?_
        refine Jk 28 193 (Jb 54 536870911) rfl rfl hHeld (.inl ⟨by rfl, by rintro w' ⟨s0, s1, s2, s3, s4, s5, s6, s7, s8, s9, s10, s11, s12, s13⟩; go_simp; with_reducible rfl⟩) ?_
        refine Jp 29 194 (Jb 54 1073741823) rfl rfl ?_
        refine Jk 30 195 (Jb 54 2147483647) rfl rfl hHeld (.inl ⟨by rfl, by rintro w' ⟨s0, s1, s2, s3, s4, s5, s6, s7, s8, s9, s10, s11, s12, s13⟩; go_simp; with_reducible rfl⟩) ?_
        refine one_ (i := 31) (N := some 196) (Jb 54 4294967295) rfl rfl (by kernel_rfl) (by decide) (fun K hK => ?_)
        refine goes_ Try.func52 (by kernel_rfl) rfl #[.float .f64 r.f5, .float .f64 r.f5] (by rfl) rfl rfl (by (try simp only [List.map_toArray, List.map_cons, List.map_nil]); first | done | rfl) ?_
        refine (equals_go r.f5 _).mono ?_
        rintro e W1 ⟨rfl, hb1⟩
        refine ⟨_, rfl, ?_⟩
        have hb2 : Below wr.heap.size wr W1 := below_then (below_drew (Below.refl wr.heap.size wr)) (Nat.le_refl _) hb1
        have HU1 := jA (HU.out.move hb2)
        have Zc := jA (Za.out.below hb2)
        have Zd := jA (Zh.out.below hb2)
        have Zk := jA (pw_cell_below hb2 HLX.out)
        have Zt := jA (Kd.C_below HCL.out hb2)
        have Zu := jA (Kd.C_below HCB.out hb2)
        refine hK.out _ _ ⟨Zc.out.cell 0, Zc.out.cell 1, Zc.out.cell 2, Zc.out.cell 3, Zc.out.cell 4, Zc.out.cell 5, Zd.out.cell 0, Zd.out.cell 1, Zd.out.cell 2, Zd.out.cell 3, Zd.out.cell 4, Zd.out.cell 5, HU1.out.room.cell 22, Zk.out⟩ (fun hHeld => ?_)
        clear hK K hb1 hb2
        refine norm_ (a' := ?_) ?_ ?_; rotate_left; (show Act.put _ (some 196) _ = _; simp only [Act.put, Jq, Jr, Js]; rfl)
        refine Jp 32 197 (Jb 54 8589934591) rfl rfl ?_
        refine Jp 33 198 (Jb 54 17179869183) rfl rfl ?_
        refine Jp 34 199 (Jb 54 34359738367) rfl rfl ?_
        refine Jp 35 200 (Jb 54 68719476735) rfl rfl ?_
        refine Jk 36 201 (Jb 54 137438953471) rfl rfl hHeld (.inl ⟨by rfl, by rintro w' ⟨s0, s1, s2, s3, s4, s5, s6, s7, s8, s9, s10, s11, s12, s13⟩; go_simp; with_reducible rfl⟩) ?_
        refine Jp 37 202 (Jb 54 274877906943) rfl rfl ?_
        refine Jp 38 203 (Jb 54 549755813887) rfl rfl ?_
        refine Jk 39 204 (Jb 54 1099511627775) rfl rfl hHeld (.inl ⟨by rfl, by rintro w' ⟨s0, s1, s2, s3, s4, s5, s6, s7, s8, s9, s10, s11, s12, s13⟩; go_simp; with_reducible rfl⟩) ?_
        refine Jp 40 205 (Jb 54 2199023255551) rfl rfl ?_
        refine Jp 41 206 (Jb 54 4398046511103) rfl rfl ?_
        refine Jp 42 207 (Jb 54 8796093022207) rfl rfl ?_
        refine Jp 43 208 (Jb 54 17592186044415) rfl rfl ?_
        refine Jp 44 209 (Jb 54 35184372088831) rfl rfl ?_
        refine Jk 45 210 (Jb 54 70368744177663) rfl rfl hHeld (.inl ⟨by rfl, by rintro w' ⟨s0, s1, s2, s3, s4, s5, s6, s7, s8, s9, s10, s11, s12, s13⟩; go_simp; with_reducible rfl⟩) ?_
        refine Jp 46 211 (Jb 54 140737488355327) rfl rfl ?_
        refine Jp 47 212 (Jb 54 281474976710655) rfl rfl ?_
        refine Jk 48 213 (Jb 54 562949953421311) rfl rfl hHeld (.inl ⟨by rfl, by rintro w' ⟨s0, s1, s2, s3, s4, s5, s6, s7, s8, s9, s10, s11, s12, s13⟩; go_simp; with_reducible rfl⟩) ?_
        refine Jp 49 214 (Jb 54 1125899906842623) rfl rfl ?_
        refine Jk 50 215 (Jb 54 2251799813685247) rfl rfl hHeld (.inl ⟨by rfl, by rintro w' ⟨s0, s1, s2, s3, s4, s5, s6, s7, s8, s9, s10, s11, s12, s13⟩; go_simp; with_reducible rfl⟩) ?_
        refine one_ (i := 51) (N := some 216) (Jb 54 4503599627370495) rfl rfl (by kernel_rfl) (by decide) (fun K hK => ?_)
        refine goes_ Try.func50 (by kernel_rfl) rfl #[.slice Li (r.f3.length + 1) li, .slice Rb r.f3.length rb] (by rfl) rfl rfl (by (try simp only [List.map_toArray, List.map_cons, List.map_nil]); first | done | rfl) ?_
        refine (long_go Li Rb li rb r.f3 _ HRL.out Zt.out HKL.out Zu.out HKB.out).mono ?_
        rintro e W2 ⟨rfl, hb1⟩
        refine ⟨_, rfl, ?_⟩
        have hb2 : Below W1.heap.size W1 W2 := hb1
        have HU2 := jA (HU1.out.move hb2)
        have Zi := jA (Zc.out.below hb2)
        have Zj := jA (Zd.out.below hb2)
        have Zx := jA (pw_cell_below hb2 Zk.out)
        refine hK.out _ _ ⟨Zi.out.cell 0, Zi.out.cell 1, Zi.out.cell 2, Zi.out.cell 3, Zi.out.cell 4, Zi.out.cell 5, Zj.out.cell 0, Zj.out.cell 1, Zj.out.cell 2, Zj.out.cell 3, Zj.out.cell 4, Zj.out.cell 5, HU2.out.room.cell 22, Zx.out⟩ (fun hHeld => ?_)
        clear hK K hb1 hb2
        refine norm_ (a' := ?_) ?_ ?_; rotate_left; (show Act.put _ (some 216) _ = _; simp only [Act.put, Jq, Jr, Js]; rfl)
        refine Jp 52 217 (Jb 54 9007199254740991) rfl rfl ?_
        refine Jp 53 218 (Jb 54 18014398509481983) rfl rfl ?_
        refine done_ (by kernel_rfl) ?_
        clear hHeld HU1 Zc Zd Zk Zt Zu
        go_wp2
        exact round_end hlt (by have := HD.out.rules; omega) (fun hq => ⟨i + 1, by omega, hq, HU2⟩)
      ·have hil : i = d.rules.length := by omega
       have hlt' : ¬ ((i : Int) < d.rules.length) := by omega
       clear hlt hi
       go_upto_region 26 with fail
       clear xp9 hil hlt'
       have xf9 := HU.out.full.cell 9
       have xp9 := HU.out.pol.cell 9
       simp only [Jt, Ju, Jv] at xf9 xp9
       obtain ⟨ad, Rm, rm, hF9, x0, x1, x2, x3, x4, x5, _, _⟩ := at_T78 (show Kd.C k78 wr F9 (d.rules.length + 1) (d.rules ++ ([⟨false, sh, e0, [], 0, 0⟩] : List S78)) from (HR.out wr HU.out.below).x9) (d.rules.length : Int) (by omega) (by omega)
       have hq1 : rd_T78 (d.rules ++ ([⟨false, sh, e0, [], 0, 0⟩] : List S78)) (d.rules.length : Int) = ⟨false, sh, e0, [], 0, 0⟩ := by simp [rd_T78, List.getD_eq_getElem?_getD]
       rw [hq1] at x0 x1 x2 x3 x4 x5
       simp only [Int.toNat_natCast, List.length_nil] at x0 x1 x2 x3 x4 x5
       subst hF9
       have hl1 : ((d.rules.length : Int) < (d.rules.length : Int) + 1) := by omega
       clear hq1
       go_upto_region 27 with (first | ((with_reducible refine gate_dst (N := 12) rfl ?_); refine wpList_alloc_store rfl rfl 78 12 (.tmp 225) rfl rfl rfl #[.bool false, .string ⟨#[]⟩, .string ⟨#[]⟩, .slice none 0 0, .int .i8 0, .float .f64 0] #[.bool false, .string sh, .string e0, .slice Rm 0 rm, .int .i8 0, .float .f64 0] _ (z78 _) rfl (by kernel_rfl) rfl (by simp [Value.oneCell']) rfl rfl ?_))
       clear x0 x1 x2 x3 x4 x5 xf9 xp9 hl1
       have hbA := below_alloc (Below.refl _ wr) (.cells #[.bool false, .string sh, .string e0, .slice Rm 0 rm, .int .i8 0, .float .f64 0] 78)
       have hgA : Stays (wr.alloc (.cells #[.bool false, .string sh, .string e0, .slice Rm 0 rm, .int .i8 0, .float .f64 0] 78)) wr.heap.size #[.bool false, .string sh, .string e0, .slice Rm 0 rm, .int .i8 0, .float .f64 0] 78 := heap_alloc_new wr _
       have HF := jA (below_then HU.out.below HU.out.below.size hbA)
       obtain ⟨g12, Zv⟩ : ∃ g12, g12 = wr.heap.size := ⟨_, rfl⟩
       rw [← Zv] at hgA ⊢
       have z0 := Stays.cell hgA 0
       have z1 := Stays.cell hgA 1
       have z2 := Stays.cell hgA 2
       have z3 := Stays.cell hgA 3
       simp only [Jt, Ju, Jv] at z0 z1 z2 z3
       clear hbA hgA Zv HU
       generalize wr.alloc (.cells #[.bool false, .string sh, .string e0, .slice Rm 0 rm, .int .i8 0, .float .f64 0] 78) = wf at HF z0 z1 z2 z3 ⊢
       go_wp2
       go_ret
       exact ⟨by simp, HF.out⟩
end Go.Proofs.Ythaiodklfoegiaa.QUnt
