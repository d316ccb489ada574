/- Of this session's texts, what the row uses: KLaw, KPure, KPure2. -/
import Derived.Test.YtacggjhgdkkclaaZ6
import Derived.Test.YtacggjhgdkkclaaZ9
import Derived.Test.YtacggjhgdkkclaaZ11
import Derived.Test.YtacggjhgdkkclaaZ14
/- gatehouselaw05.CanonDecls, walked. -/
namespace Go.Proofs.Ytacggjhgdkkclaa.KLaw
open Go.RowKit Go.Proofs.YtacggjhgdkkclaaW.PrintWords Go.Proofs.YtacggjhgdkkclaaW.PrintLast Go.Proofs.YtacggjhgdkkclaaW.PrintMore Go.Maps
open Go.Proofs.Ytacggjhgdkkclaa Go.Proofs.Ytacggjhgdkkclaa.PG Go.Proofs.YtacggjhgdkkclaaF Go.Proofs.Ytacggjhgdkkclaa.KBase Go.Proofs.Ytacggjhgdkkclaa.KApart Go.Proofs.Ytacggjhgdkkclaa.KUnt
set_option linter.unusedSimpArgs false
def refF (K : Nat) (d : PolD) : Option (List S47) := gatehouseref05_Decls.f K d.acts d.subs d.roles d.objs d.grps d.mem d.inh d.par d.wit d.rules d.exc
theorem ref_go (p : Pol) (K : Nat) (ws : List S47) (w : World) (hp : p.In w) (h : refF K p.d = some ws) : Calls Try.prog 4 #[.agg p.cells] w fun e w' => ∃ A c, e = .returned (.slice A ws.length c) ∧ Kd.N k47 47 w' w.heap.size (fun k => w.heap.size ≤ k) (.slice A ws.length c) ws ∧ Below w.heap.size w w' :=
  (gatehouseref05_Decls.calls K p.A0 p.c0 p.d.acts p.A1 p.c1 p.d.subs p.A2 p.c2 p.d.roles p.A3 p.c3 p.d.objs p.A4 p.c4 p.d.grps p.A5 p.c5 p.d.mem p.A6 p.c6 p.d.inh p.A7 p.c7 p.d.par p.A8 p.c8 p.d.wit p.A9 p.c9 p.d.rules p.A10 p.c10 p.d.exc ws w hp.h0 hp.l0 hp.h1 hp.l1 hp.h2 hp.l2 hp.h3 hp.l3 hp.h4 hp.l4 hp.h5 hp.l5 hp.h6 hp.l6 hp.h7 hp.l7 hp.h8 hp.l8 hp.h9 hp.l9 hp.h10 hp.l10 h).mono (by
    rintro e w' ⟨v, rfl, hN, hb⟩
    obtain ⟨A, c, rfl⟩ := Kd.N_slice hN
    exact ⟨A, c, rfl, hN, hb⟩)
structure Ok (d : PolD) (KK : Nat) (rs : List S47) (K2 : Nat) (ws : List S47) (K3 : Nat) : Prop where
  lens : KRoom.Lens d
  rules : KDecls.rulesF KK d = some rs
  rlen : rs.length ≤ 1048576
  want : refF K2 d = some ws
  same : gatehouseref05_SameDecls.f K3 (KDecls.declsL d rs) ws = some true
  len : (KDecls.declsL d rs).length ≤ 4194304
  each : ∀ i, (rd_T47 (KDecls.declsL d rs) (i : Nat)).f5.length ≤ 4194304
theorem Ok.decls {d : PolD} {KK K2 K3 : Nat} {rs ws : List S47} (h : Ok d KK rs K2 ws K3) : KDecls.Lens d := ⟨h.lens.acts, h.lens.subs, h.lens.roles, h.lens.objs, h.lens.grps, h.lens.mem, h.lens.inh, h.lens.par, h.lens.wit, h.lens.rules, h.lens.exc⟩
theorem Ok.short {d : PolD} {KK K2 K3 : Nat} {rs ws : List S47} (h : Ok d KK rs K2 ws K3) : KUnt.Short d := ⟨h.lens.acts, h.lens.subs, h.lens.roles, h.lens.objs, h.lens.grps, h.lens.mem, h.lens.inh, h.lens.par, h.lens.wit, h.lens.rules, h.lens.exc, h.lens.each⟩
theorem decls_go (q : Pol) (d : PolD) (hq : q.d = d) {KK K2 K3 : Nat} {rs ws : List S47} (h : Ok d KK rs K2 ws K3) (w : World) (hp : q.In w) : Calls Try.prog 6 #[.agg q.cells] w fun e w' => ∃ A c, e = .returned (.slice A (KDecls.declsL d rs).length c) ∧ Kd.S k47 47 w' w.heap.size (fun k => w.heap.size ≤ k ∧ k < w'.heap.size) (.slice A (KDecls.declsL d rs).length c) (KDecls.declsL d rs) ∧ Below w.heap.size w w' := by
  subst hq
  exact (KDecls.decls_calls q KK rs w hp h.decls h.rules h.rlen).mono (by
    rintro e w' ⟨v, rfl, hS, hb⟩
    obtain ⟨A, c, rfl⟩ := Kd.S_slice hS
    exact ⟨A, c, rfl, Kd.S_mono (Kd.S_bound hS) (fun k hk => ⟨hk.2.1, hk.2.2.1⟩), hb⟩)
theorem unt_go (p q : Pol) (r : RA) (w : World) (hp : p.In w) (hq : q.d = p.d) (hr : r.In p.d w) (hd : KUnt.Short p.d) : Calls Try.prog 7 #[.agg (roomV q r), .agg p.cells] w fun e w' => e = .returned (.bool true) ∧ Below w.heap.size w w' := KUnt.untouched_calls p q r w hp hq hr hd
structure Old (p q : Pol) (r : RA) (g1 g4 : Nat) (Aw : Option Addr) (cw : Nat) (ws : List S47) (Wg : World) : Prop where
  ip : p.In Wg
  iq : q.In Wg
  ir : r.In p.d Wg
  b1 : Stays Wg g1 p.cells 28
  b4 : Stays Wg g4 (roomV q r) 33
  want : ∀ W, Below Wg.heap.size Wg W → Kd.C k47 W Aw ws.length ws
  wc : ws.length ≤ cw
theorem Old.room {p q : Pol} {r : RA} {g1 g4 : Nat} {Aw : Option Addr} {cw : Nat} {ws : List S47} {Wg W : World} (h : Old p q r g1 g4 Aw cw ws Wg) (hb : Below Wg.heap.size Wg W) : ∀ (j : Nat) (v : Value), q.cells.toList[j]? = some v → W.cell? ((⟨g4, 0, none⟩ : Addr).add j) = some v := by
  intro j v hj
  have hlt : j < 11 := by have := (List.getElem?_eq_some_iff.1 hj).1; simpa [Pol.cells] using this
  have hc := (h.b4.below hb).cell j
  rw [show (⟨g4, 0, none⟩ : Addr).add j = ⟨g4, j, none⟩ by (unfold Addr.add; split <;> simp_all), hc, ← hj]
  have hd : j = 0 ∨ j = 1 ∨ j = 2 ∨ j = 3 ∨ j = 4 ∨ j = 5 ∨ j = 6 ∨ j = 7 ∨ j = 8 ∨ j = 9 ∨ j = 10 := by omega
  rcases hd with rfl | rfl | rfl | rfl | rfl | rfl | rfl | rfl | rfl | rfl | rfl <;> rfl
theorem wpList_load_arr {P : Program} {ops : Array Oper} {rest : List Oper} {o : Oper} {a : Act} {w : World} {Q : Exit → Act → World → Prop} (hgd : o.guard = none) (ty : TypeId) (x : Operand) (ho : o.op = .load ty x) (a0 : Addr) (hx : a.eval x = .pointer (some a0)) (cs : Array Value) (hc : ∀ (j : Nat) (v : Value), cs.toList[j]? = some v → w.cell? (a0.add j) = some v)
    (d : TypeDesc) (hu : P.underlying ty = some d) (hd : aggDesc d = true) (hi : (P.info? ty).map (·.size) = some cs.size) (h : wpList P ops Q rest (a.put o.dst (.agg cs)) w) : wpList P ops Q (o :: rest) a w :=
  wpList_load_at hgd ty x ho a0 hx cs.toList hc d hu hd (by simpa using hi) (by simpa using h)
theorem i28 (p : Pol) : (Try.prog.info? 28).map (·.size) = some p.cells.size := by show _ = some 11; kernel_rfl
theorem i33 (q : Pol) (r : RA) : (Try.prog.info? 33).map (·.size) = some (roomV q r).size := by show _ = some 23; kernel_rfl
theorem z33 (w : World) : (zeroValue 33).run Try.prog w = .ok (.agg #[.slice none 0 0, .slice none 0 0, .slice none 0 0, .slice none 0 0, .slice none 0 0, .slice none 0 0, .slice none 0 0, .slice none 0 0, .slice none 0 0, .slice none 0 0, .slice none 0 0, .slice none 0 0, .slice none 0 0, .slice none 0 0, .slice none 0 0, .slice none 0 0, .slice none 0 0, .slice none 0 0, .slice none 0 0, .slice none 0 0, .slice none 0 0, .slice none 0 0, .slice none 0 0]) w := by kernel_rfl
set_option maxHeartbeats 8000000 in
set_option maxRecDepth 100000 in
theorem law_calls (p : Pol) (w : World) (hp : p.In w) {KK K2 K3 : Nat} {rs ws : List S47} (hO : Ok p.d KK rs K2 ws K3) :
    Calls Try.prog 3 #[.agg p.cells] w fun e w' => e = .returned (.bool true) ∧ Below w.heap.size w w' := by
  have HO := Aside0.mk hO
  have HP := Aside0.mk (fun (W : World) (hb : Below w.heap.size w W) => hp.below hb)
  have hst : Stays (w.alloc (.cells p.cells 28)) w.heap.size p.cells 28 := heap_alloc_new w _
  have hb0 := below_alloc (Below.refl w.heap.size w) (.cells p.cells 28)
  clear hp hO
  go_enter Try.func3, Try.ntmps3
  go_upto_region 1 with fail
  generalize w.alloc (.cells p.cells 28) = W0 at hst hb0 ⊢
  have HST := Aside0.mk hst
  have HB0 := Aside0.mk hb0
  clear hst hb0
  go_upto_region 2 with (first
    | ((with_reducible refine gate_dst (N := 10) rfl ?_); refine wpList_load_blk rfl 28 (.tmp 1) rfl w.heap.size ?hx p.cells 28 HST.out _ Try.underlying28 rfl (i28 p) ?_; (case hx => rfl))
    | (go_at_call 4; (with_reducible refine (ref_go p K2 ws _ (HP.out _ HB0.out) HO.out.want).mono ?_); rintro e W1 ⟨Aw, cw, rfl, hN, hb⟩; have HN := Aside0.mk hN; have HB1 := Aside0.mk (below_then HB0.out HB0.out.size hb); have HST1 := Aside0.mk (HST.out.below hb); clear hN hb))
  go_upto_region 3 with (first
    | ((with_reducible refine gate_dst (N := 12) rfl ?_); refine wpList_load_blk rfl 28 (.tmp 1) rfl w.heap.size ?hx p.cells 28 HST1.out _ Try.underlying28 rfl (i28 p) ?_; (case hx => rfl))
    | (go_at_call 5; (with_reducible refine (KReads.roomy_reads p _ (HP.out _ HB1.out) HO.out.lens).mono ?_); rintro e W2 ⟨q, r, rfl, hqd, hq, hr, hb⟩; have HB2 := Aside0.mk (below_then HB1.out HB1.out.size hb); have HST2 := Aside0.mk (HST1.out.below hb); have HN2 := Aside0.mk (Kd.N_below HN.out hb); have HQD := Aside0.mk hqd; have HQ2 := Aside0.mk hq; have HR2 := Aside0.mk hr; have HSZ := Aside0.mk hb.size; clear hqd hq hr hb)
    | ((with_reducible refine gate_dst (N := 4) rfl ?_); refine wpList_alloc_store rfl rfl 33 4 (.tmp 13) rfl rfl rfl #[.slice none 0 0, .slice none 0 0, .slice none 0 0, .slice none 0 0, .slice none 0 0, .slice none 0 0, .slice none 0 0, .slice none 0 0, .slice none 0 0, .slice none 0 0, .slice none 0 0, .slice none 0 0, .slice none 0 0, .slice none 0 0, .slice none 0 0, .slice none 0 0, .slice none 0 0, .slice none 0 0, .slice none 0 0, .slice none 0 0, .slice none 0 0, .slice none 0 0, .slice none 0 0] (roomV q r) _ (z33 _) rfl (i33 q r) rfl (by simp [roomV, Value.oneCell']) rfl rfl ?_))
  have hbg := below_alloc (Below.refl _ W2) (.cells (roomV q r) 33)
  have h4 : Stays (W2.alloc (.cells (roomV q r) 33)) W2.heap.size (roomV q r) 33 := heap_alloc_new W2 _
  have HGF := Aside0.mk (show ∃ Wg, Wg = W2.alloc (.cells (roomV q r) 33) from ⟨_, rfl⟩)
  obtain ⟨Wg, hWg⟩ := HGF.out
  obtain ⟨g4, hg4⟩ : ∃ g4, g4 = W2.heap.size := ⟨_, rfl⟩
  rw [← hWg] at hbg h4 ⊢
  rw [← hg4] at h4 ⊢
  have HB := Aside0.mk (below_then HB2.out HB2.out.size hbg)
  have HG := Aside0.mk (Old.mk (p := p) (q := q) (r := r) (g1 := w.heap.size) (g4 := g4) (Aw := Aw) (cw := cw) (ws := ws) (Wg := Wg) (HP.out _ HB.out) (HQ2.out.below hbg) (HR2.out.below hbg) (HST2.out.below hbg) h4 (fun W hb => by
    have h1 := Kd.N_F (Kd.N_bound (Kd.N_below HN2.out hbg))
    exact h1 W (fun k _ hlt => hb.block k hlt)) (Kd.N_reads' HN2.out).2.1)
  clear HST HB0 HN HB1 HST1 HB2 HST2 HN2 HQ2 HR2 HSZ HGF hWg hg4 hbg h4
  have HBg := Aside0.mk (Below.refl Wg.heap.size Wg)
  obtain ⟨xs, hxs⟩ : ∃ xs, xs = KDecls.declsL p.d rs := ⟨_, rfl⟩
  have HXS := Aside0.mk hxs
  have DG := Aside0.mk (fun (W : World) (hb : Below Wg.heap.size Wg W) => (show Calls Try.prog 6 #[.agg q.cells] W fun e w' => ∃ A c, e = .returned (.slice A xs.length c) ∧ Kd.S k47 47 w' W.heap.size (fun k => W.heap.size ≤ k ∧ k < w'.heap.size) (.slice A xs.length c) xs ∧ Below W.heap.size W w' by rw [HXS.out]; exact decls_go q p.d HQD.out HO.out W (HG.out.iq.below hb)))
  have UG := Aside0.mk (fun (W : World) (hb : Below Wg.heap.size Wg W) => unt_go p q r W (HG.out.ip.below hb) HQD.out (HG.out.ir.below hb) HO.out.short)
  have RM := Aside0.mk (fun (W : World) (hb : Below Wg.heap.size Wg W) => HG.out.room hb)
  clear hxs
  go_upto_region 4 with (first
    | ((with_reducible refine gate_dst (N := 15) rfl ?_); refine wpList_load_arr rfl 28 (.tmp 14) rfl ⟨g4, 0, none⟩ ?hx q.cells (RM.out _ HBg.out) _ Try.underlying28 rfl (i28 q) ?_; (case hx => rfl))
    | (go_at_call 6; (with_reducible refine (DG.out _ HBg.out).mono ?_); rintro e W3 ⟨Aa, ca, rfl, hS, hb⟩; have HSa := Aside0.mk hS; have HB3 := Aside0.mk (below_then HBg.out HBg.out.size hb); clear hS hb))
  go_upto_region 6 with (first
    | ((with_reducible refine gate_dst (N := 17) rfl ?_); refine wpList_load_blk rfl 33 (.tmp 4) rfl g4 ?hx (roomV q r) 33 (HG.out.b4.below HB3.out) _ Try.underlying33 rfl (i33 q r) ?_; (case hx => rfl))
    | ((with_reducible refine gate_dst (N := 18) rfl ?_); refine wpList_load_blk rfl 28 (.tmp 1) rfl w.heap.size ?hx p.cells 28 (HG.out.b1.below HB3.out) _ Try.underlying28 rfl (i28 p) ?_; (case hx => rfl))
    | (go_at_call 7; (with_reducible refine (UG.out _ HB3.out).mono ?_); rintro e W4 ⟨rfl, hb⟩; have HB4 := Aside0.mk (below_then HB3.out HB3.out.size hb); have H34 := Aside0.mk hb; clear hb))
  go_upto_region 7 with (first
    | ((with_reducible refine gate_dst (N := 22) rfl ?_); refine wpList_load_arr rfl 28 (.tmp 21) rfl ⟨g4, 0, none⟩ ?hx q.cells (RM.out _ HB4.out) _ Try.underlying28 rfl (i28 q) ?_; (case hx => rfl))
    | (go_at_call 6; (with_reducible refine (DG.out _ HB4.out).mono ?_); rintro e W5 ⟨Ab, cb, rfl, hS, hb⟩; have HSb := Aside0.mk hS; have HB5 := Aside0.mk (below_then HB4.out HB4.out.size hb); have H45 := Aside0.mk hb; clear hS hb))
  go_upto_region 8 with (first
    | ((with_reducible refine gate_dst (N := 25) rfl ?_); refine wpList_load_arr rfl 28 (.tmp 24) rfl ⟨g4, 0, none⟩ ?hx q.cells (RM.out _ HB5.out) _ Try.underlying28 rfl (i28 q) ?_; (case hx => rfl))
    | (go_at_call 6; (with_reducible refine (DG.out _ HB5.out).mono ?_); rintro e W6 ⟨Ac, cc, rfl, hS, hb⟩; have HSc := Aside0.mk hS; have HB6 := Aside0.mk (below_then HB5.out HB5.out.size hb); have H56 := Aside0.mk hb; clear hS hb))
  have hz3 := HB3.out.size
  have hz34 := H34.out.size
  have hz45 := H45.out.size
  have hz56 := H56.out.size
  have HAP := Aside0.mk (show Calls Try.prog 8 #[.slice Aa xs.length ca, .slice Ab xs.length cb, .slice Ac xs.length cc, .slice Aw ws.length cw] W6 (fun e w' => e = .returned (.bool true) ∧ Below Wg.heap.size W6 w') from
    KApWalk.apart_calls (Gv.mk Wg.heap.size (fun k => Wg.heap.size ≤ k ∧ k < W3.heap.size) (fun k => W4.heap.size ≤ k ∧ k < W5.heap.size) (fun k => W5.heap.size ≤ k ∧ k < W6.heap.size) Aa ca Ab cb Ac cc xs W6)
      ⟨fun k h1 h2 => by omega, fun k h1 h2 => by omega, fun k h1 h2 => by omega, fun k h => ⟨h.1, by show k < W6.heap.size; omega⟩, fun k h => ⟨by show Wg.heap.size ≤ k; omega, h.2⟩, fun k h => by show k < W6.heap.size; omega, by show Wg.heap.size ≤ W6.heap.size; omega, by show xs.length ≤ _; rw [HXS.out]; exact HO.out.len, by show ∀ i, (rd_T47 xs (i : Nat)).f5.length ≤ _; rw [HXS.out]; exact HO.out.each⟩
      ⟨Kd.S_below (Kd.S_below (Kd.S_below HSa.out H34.out) H45.out) H56.out, Kd.S_R (Kd.S_lower (Kd.S_below HSb.out H56.out) (by show Wg.heap.size ≤ W4.heap.size; omega)), Kd.S_lower HSc.out (by show Wg.heap.size ≤ W5.heap.size; omega), Below.refl _ _, Nat.le_refl _⟩
      Aw cw ws K3 (fun W hb => HG.out.want W (HB6.out.trans hb)) HG.out.wc (by show gatehouseref05_SameDecls.f K3 xs ws = some true; rw [HXS.out]; exact HO.out.same))
  clear hz3 hz34 hz45 hz56
  go_upto_region 11 with (go_at_call 8; (with_reducible refine HAP.out.mono ?_); rintro e W7 ⟨rfl, hb⟩; have HB7 := Aside0.mk (HB6.out.trans hb); clear hb)
  go_upto_region 12 with (first
    | ((with_reducible refine gate_dst (N := 35) rfl ?_); refine wpList_load_arr rfl 28 (.tmp 34) rfl ⟨g4, 0, none⟩ ?hx q.cells (RM.out _ HB7.out) _ Try.underlying28 rfl (i28 q) ?_; (case hx => rfl))
    | (go_at_call 6; (with_reducible refine (DG.out _ HB7.out).mono ?_); rintro e W8 ⟨Ad, cd, rfl, hS, hb⟩; have HSd := Aside0.mk hS; have HB8 := Aside0.mk (below_then HB7.out HB7.out.size hb); clear hS hb))
  have HSM := Aside0.mk (show gatehouseref05_SameDecls.f K3 xs ws = some true by rw [HXS.out]; exact HO.out.same)
  go_wp2_with (first
    | (go_at_call 9; (with_reducible refine (KApWalk.same_go HSM.out (Kd.S_reads' HSd.out).2.2 (Kd.S_reads' HSd.out).2.1 (HG.out.want _ HB8.out) HG.out.wc).mono ?_); rintro e W9 ⟨rfl, hb⟩; have HB9 := Aside0.mk (below_then HB8.out HB8.out.size hb); clear hb)
    | ((with_reducible refine gate_dst (N := 41) rfl ?_); refine gate_guard (by rfl) ?_; dsimp only; refine wpList_load_blk rfl 33 (.tmp 4) rfl g4 ?hx (roomV q r) 33 (HG.out.b4.below HB9.out) _ Try.underlying33 rfl (i33 q r) ?_; (case hx => rfl))
    | ((with_reducible refine gate_dst (N := 42) rfl ?_); refine gate_guard (by rfl) ?_; dsimp only; refine wpList_load_blk rfl 28 (.tmp 1) rfl w.heap.size ?hx p.cells 28 (HG.out.b1.below HB9.out) _ Try.underlying28 rfl (i28 p) ?_; (case hx => rfl))
    | (go_at_call 7; (with_reducible refine (UG.out _ HB9.out).mono ?_); rintro e W10 ⟨rfl, hb⟩; have HB10 := Aside0.mk (below_then HB9.out HB9.out.size hb); clear hb))
  go_ret
  exact ⟨rfl, below_then HB.out HB.out.size HB10.out⟩
end Go.Proofs.Ytacggjhgdkkclaa.KLaw
/- The plain law of gatehouselaw05.CanonDecls: what canon.Decls lists is what the document lists. -/
namespace Go.Proofs.Ytacggjhgdkkclaa.KPure
open Go.RowKit Go.Proofs.YtacggjhgdkkclaaW.PrintWords Go.Proofs.YtacggjhgdkkclaaW.PrintLast Go.Proofs.YtacggjhgdkkclaaW.PrintMore Go.Maps
open Go.Proofs.Ytacggjhgdkkclaa Go.Proofs.Ytacggjhgdkkclaa.PG Go.Proofs.YtacggjhgdkkclaaF Go.Proofs.Ytacggjhgdkkclaa.KBase Go.Proofs.Ytacggjhgdkkclaa.KDP Go.Proofs.Ytacggjhgdkkclaa.KDecls
set_option linter.unusedSimpArgs false
theorem wrap_n (i : Nat) (h : i ≤ 4194304000) : wrap64 ((i : Int) + 1) = ((i + 1 : Nat) : Int) := by unfold wrap64; omega
theorem rdOf_n (l : List ByteArray) (i : Nat) (h : i < l.length) : rdOf ByteArray.empty l (i : Int) = l[i] := by simp [rdOf, List.getD_eq_getElem?_getD, h]
theorem rd59_n (l : List S59) (i : Nat) (h : i < l.length) : rd_T59 l (i : Int) = l[i] := by simp [rd_T59, List.getD_eq_getElem?_getD, h]
theorem rd42_n (l : List S42) (i : Nat) (h : i < l.length) : rd_T42 l (i : Int) = l[i] := by simp [rd_T42, List.getD_eq_getElem?_getD, h]
theorem rd51_n (l : List S51) (i : Nat) (h : i < l.length) : rd_T51 l (i : Int) = l[i] := by simp [rd_T51, List.getD_eq_getElem?_getD, h]
theorem rd53_n (l : List S53) (i : Nat) (h : i < l.length) : rd_T53 l (i : Int) = l[i] := by simp [rd_T53, List.getD_eq_getElem?_getD, h]
theorem drop_map {α β : Type} (f : α → β) (l : List α) (i : Nat) (h : i < l.length) : (l.map f).drop i = f l[i] :: (l.map f).drop (i + 1) := by
  rw [List.drop_eq_getElem_cons (by rw [List.length_map]; exact h), List.getElem_map]
theorem single_l0 (kind : Int) (l : List ByteArray) (hl : l.length ≤ 1048576) : ∀ (n i q : Nat) (acc : List S47), i + n = l.length → n < q → acc.length + n ≤ 1073741824 → gatehouseref05_single.l0 q kind l acc (i : Int) = some (acc ++ (singleL kind l).drop i) := by
  intro n
  induction n with
  | zero =>
    intro i q acc hi hq _
    obtain ⟨q, rfl⟩ : ∃ m, q = m + 1 := ⟨q - 1, by omega⟩
    simp only [gatehouseref05_single.l0]
    rw [if_neg (by omega), List.drop_of_length_le (by unfold singleL; rw [List.length_map]; omega), List.append_nil]
  | succ n ih =>
    intro i q acc hi hq ha
    obtain ⟨q, rfl⟩ : ∃ m, q = m + 1 := ⟨q - 1, by omega⟩
    simp only [gatehouseref05_single.l0]
    rw [if_pos (by omega), if_pos (by omega), if_pos (by omega), wrap_n i (by omega), rdOf_n l i (by omega), ih (i + 1) q _ (by omega) (by omega) (by rw [List.length_append, List.length_singleton]; omega)]
    unfold singleL
    rw [drop_map _ l i (by omega), List.append_assoc]
    rfl
theorem single_f (kind : Int) (l : List ByteArray) (hl : l.length ≤ 1048576) (q : Nat) (hq : l.length < q) : gatehouseref05_single.f q kind l = some (singleL kind l) := by
  have h := single_l0 kind l hl l.length 0 q [] (by omega) hq (by simp; omega)
  simpa [gatehouseref05_single.f] using h
theorem double_l0 (kind : Int) (l : List S59) (hl : l.length ≤ 1048576) : ∀ (n i q : Nat) (acc : List S47), i + n = l.length → n < q → acc.length + n ≤ 1073741824 → gatehouseref05_double.l0 q kind l acc (i : Int) = some (acc ++ (doubleL kind l).drop i) := by
  intro n
  induction n with
  | zero =>
    intro i q acc hi hq _
    obtain ⟨q, rfl⟩ : ∃ m, q = m + 1 := ⟨q - 1, by omega⟩
    simp only [gatehouseref05_double.l0]
    rw [if_neg (by omega), List.drop_of_length_le (by unfold doubleL; rw [List.length_map]; omega), List.append_nil]
  | succ n ih =>
    intro i q acc hi hq ha
    obtain ⟨q, rfl⟩ : ∃ m, q = m + 1 := ⟨q - 1, by omega⟩
    simp only [gatehouseref05_double.l0]
    rw [if_pos (by omega), if_pos (by omega), if_pos (by omega), wrap_n i (by omega), rd59_n l i (by omega), ih (i + 1) q _ (by omega) (by omega) (by rw [List.length_append, List.length_singleton]; omega)]
    unfold doubleL
    rw [drop_map _ l i (by omega), List.append_assoc]
    rfl
theorem double_f (kind : Int) (l : List S59) (hl : l.length ≤ 1048576) (q : Nat) (hq : l.length < q) : gatehouseref05_double.f q kind l = some (doubleL kind l) := by
  have h := double_l0 kind l hl l.length 0 q [] (by omega) hq (by simp; omega)
  simpa [gatehouseref05_double.f] using h
def namesL (l : List ByteArray) : List S44 := l.map (fun s => ⟨s, 0, 0⟩)
def ruleS (r : S51) : S47 := ⟨if r.f0 = true then 11 else 10, 0, 0, ⟨r.f1, 0, 0⟩, ⟨r.f2, 0, 0⟩, namesL r.f3, ((r.f3.length : Int) == 0), r.f4, if r.f4 = 0 then 0 else r.f5⟩
theorem rule_l0 (r : S51) (hl : r.f3.length ≤ 1048576) (a0 : Bool) (a1 a2 : ByteArray) (a4 : Int) (a5 : Nat) (b0 b1 b2 : Int) (b3 : ByteArray) (b4 b5 : Int) (b6 : ByteArray) (b7 b8 : Int) (bb : Bool) (b11 : Int) (b12 : Nat) : ∀ (n i q : Nat) (acc : List S44), i + n = r.f3.length → n < q → acc.length + n ≤ 1048576 →
    gatehouseref05_rule.l0 q (i : Int) a0 a1 a2 r.f3 a4 a5 b0 b1 b2 b3 b4 b5 b6 b7 b8 acc bb b11 b12 = some (b0, b1, b2, b3, b4, b5, b6, b7, b8, acc ++ (namesL r.f3).drop i, ((r.f3.length : Int) == 0), b11, b12) := by
  intro n
  induction n with
  | zero =>
    intro i q acc hi hq _
    obtain ⟨q, rfl⟩ : ∃ m, q = m + 1 := ⟨q - 1, by omega⟩
    simp only [gatehouseref05_rule.l0]
    rw [if_neg (by omega), List.drop_of_length_le (by unfold namesL; rw [List.length_map]; omega), List.append_nil]
  | succ n ih =>
    intro i q acc hi hq ha
    obtain ⟨q, rfl⟩ : ∃ m, q = m + 1 := ⟨q - 1, by omega⟩
    simp only [gatehouseref05_rule.l0]
    rw [if_pos (by omega), if_pos (by omega), if_pos (by omega), wrap_n i (by omega), rdOf_n r.f3 i (by omega), ih (i + 1) q _ (by omega) (by omega) (by rw [List.length_append, List.length_singleton]; omega)]
    unfold namesL
    rw [drop_map _ r.f3 i (by omega), List.append_assoc]
    rfl
theorem rule_f (r : S51) (hl : r.f3.length ≤ 1048576) (q : Nat) (hq : r.f3.length + 2 < q) : gatehouseref05_rule.f q r.f0 r.f1 r.f2 r.f3 r.f4 r.f5 = some ((ruleS r).f0, 0, 0, r.f1, 0, 0, r.f2, 0, 0, namesL r.f3, ((r.f3.length : Int) == 0), r.f4, (ruleS r).f8) := by
  obtain ⟨q, rfl⟩ : ∃ m, q = m + 2 := ⟨q - 2, by omega⟩
  have go : ∀ (b0 : Int) (b12 : Nat), gatehouseref05_rule.j1 (q + 1) r.f0 r.f1 r.f2 r.f3 r.f4 r.f5 b0 0 0 r.f1 0 0 r.f2 0 0 false r.f4 b12 = some (b0, 0, 0, r.f1, 0, 0, r.f2, 0, 0, namesL r.f3, ((r.f3.length : Int) == 0), r.f4, b12) := by
    intro b0 b12
    simp only [gatehouseref05_rule.j1]
    have h := rule_l0 r hl r.f0 r.f1 r.f2 r.f4 r.f5 b0 0 0 r.f1 0 0 r.f2 0 0 false r.f4 b12 r.f3.length 0 q [] (by omega) (by omega) (by simp; omega)
    simpa using h
  have go0 : ∀ (b0 : Int), gatehouseref05_rule.j0 (q + 2) r.f0 r.f1 r.f2 r.f3 r.f4 r.f5 b0 0 0 r.f1 0 0 r.f2 0 0 false r.f4 0 = some (b0, 0, 0, r.f1, 0, 0, r.f2, 0, 0, namesL r.f3, ((r.f3.length : Int) == 0), r.f4, (ruleS r).f8) := by
    intro b0
    simp only [gatehouseref05_rule.j0]
    unfold ruleS
    by_cases h : r.f4 = 0
    · rw [if_pos h, go]; simp [h]
    · rw [if_neg h, go]; simp [h]
  unfold gatehouseref05_rule.f
  by_cases h : r.f0 = true
  · rw [if_pos h, go0]; simp [ruleS, h]
  · rw [if_neg h, go0]; simp [ruleS, h]
end Go.Proofs.Ytacggjhgdkkclaa.KPure
/- The plain law of gatehouselaw05.CanonDecls, the second half. -/
namespace Go.Proofs.Ytacggjhgdkkclaa.KPure2
open Go.RowKit Go.Proofs.YtacggjhgdkkclaaW.PrintWords Go.Proofs.YtacggjhgdkkclaaW.PrintLast Go.Proofs.YtacggjhgdkkclaaW.PrintMore Go.Maps
open Go.Proofs.Ytacggjhgdkkclaa Go.Proofs.Ytacggjhgdkkclaa.PG Go.Proofs.YtacggjhgdkkclaaF Go.Proofs.Ytacggjhgdkkclaa.KBase Go.Proofs.Ytacggjhgdkkclaa.KDP Go.Proofs.Ytacggjhgdkkclaa.KDecls Go.Proofs.Ytacggjhgdkkclaa.KPure
set_option linter.unusedSimpArgs false
/-! ### canon.rules -/
theorem rules_l1 (r : S51) (hl : r.f3.length ≤ 1048576) (x3 : List S47) (hx : x3.length < 1099511627776) (L : List S51) (x11 x12 : Int) (b0 b1 b2 : Int) (b3 : ByteArray) (b4 b5 : Int) (b6 : ByteArray) (b7 b8 : Int) (bb : Bool) (b11 : Int) (b12 : Nat) : ∀ (n i q : Nat) (acc : List S44), i + n = r.f3.length → acc.length + n ≤ 1048576 →
    canon_rules.l1 (q + n + 1) x3 L x11 x12 r.f3 (r.f3.length : Int) (i : Int) b0 b1 b2 b3 b4 b5 b6 b7 b8 acc bb b11 b12 = canon_rules.l0 q (x3 ++ [⟨b0, b1, b2, ⟨b3, b4, b5⟩, ⟨b6, b7, b8⟩, acc ++ (namesL r.f3).drop i, bb, b11, b12⟩]) L x11 (wrap64 (x12 + 1)) := by
  intro n
  induction n with
  | zero =>
    intro i q acc hi _
    simp only [canon_rules.l1, Nat.add_zero]
    rw [if_neg (by omega), if_pos hx, List.drop_of_length_le (by unfold namesL; rw [List.length_map]; omega), List.append_nil]
  | succ n ih =>
    intro i q acc hi ha
    have hi' : i < r.f3.length := by omega
    obtain ⟨s, hs⟩ : ∃ s, s = r.f3[i] := ⟨_, rfl⟩
    obtain ⟨m, hm⟩ : ∃ m, m = q + n + 1 := ⟨_, rfl⟩
    rw [show q + (n + 1) + 1 = m + 1 by omega]
    simp only [canon_rules.l1]
    rw [if_pos (by omega), if_pos (by omega), if_pos (by omega), if_pos (by omega), wrap_n i (by omega), rdOf_n r.f3 i hi', ← hs, hm, ih (i + 1) q _ (by omega) (by rw [List.length_append, List.length_singleton]; omega)]
    unfold namesL
    rw [drop_map _ r.f3 i hi', List.append_assoc, hs]
    rfl
def need (L : List S51) : Nat := (L.map (fun r => r.f3.length + 4)).sum
theorem rules_l0 (L : List S51) (hL : L.length ≤ 1048576) (he : ∀ r ∈ L, r.f3.length ≤ 1048576) : ∀ (n i q : Nat) (acc : List S47), i + n = L.length → need (L.drop i) < q → acc.length + n ≤ 1073741824 → canon_rules.l0 q acc L (L.length : Int) (i : Int) = some (acc ++ (L.map ruleS).drop i) := by
  intro n
  induction n with
  | zero =>
    intro i q acc hi hq _
    obtain ⟨q, rfl⟩ : ∃ m, q = m + 1 := ⟨q - 1, by omega⟩
    simp only [canon_rules.l0]
    rw [if_neg (by omega), List.drop_of_length_le (by rw [List.length_map]; omega), List.append_nil]
  | succ n ih =>
    intro i q acc hi hq ha
    have hlt : i < L.length := by omega
    have hr := he L[i] (List.getElem_mem hlt)
    have hnd : need (L.drop i) = (L[i].f3.length + 4) + need (L.drop (i + 1)) := by
      unfold need
      rw [List.drop_eq_getElem_cons hlt, List.map_cons, List.sum_cons]
    obtain ⟨r, hrr⟩ : ∃ r, r = L[i] := ⟨_, rfl⟩
    have hmap : (L.map ruleS).drop i = ruleS r :: (L.map ruleS).drop (i + 1) := by rw [hrr]; exact drop_map _ L i hlt
    rw [← hrr] at hr hnd
    obtain ⟨q, rfl⟩ : ∃ m, q = (m + r.f3.length + 1) + 3 := ⟨q - r.f3.length - 4, by omega⟩
    obtain ⟨Z, hZ⟩ : ∃ Z, Z = q + r.f3.length + 1 := ⟨_, rfl⟩
    rw [← hZ]
    have fin : ∀ (b0 : Int) (b12 : Nat), ruleS r = ⟨b0, 0, 0, ⟨r.f1, 0, 0⟩, ⟨r.f2, 0, 0⟩, namesL r.f3, ((r.f3.length : Int) == 0), r.f4, b12⟩ → canon_rules.j2 (Z + 1) acc L (L.length : Int) (i : Int) r.f0 r.f1 r.f2 r.f3 r.f4 r.f5 b0 0 0 r.f1 0 0 r.f2 0 0 ((r.f3.length : Int) == 0) r.f4 b12 = some (acc ++ (L.map ruleS).drop i) := by
      intro b0 b12 hS
      simp only [canon_rules.j2]
      have h := rules_l1 r hr acc (by omega) L (L.length : Int) (i : Int) b0 0 0 r.f1 0 0 r.f2 0 0 ((r.f3.length : Int) == 0) r.f4 b12 r.f3.length 0 q [] (by omega) (by simp; omega)
      simp only [List.drop_zero, List.nil_append] at h
      rw [hZ]
      refine Eq.trans h ?_
      rw [← hS, wrap_n i (by omega), ih (i + 1) q _ (by omega) (by omega) (by rw [List.length_append, List.length_singleton]; omega), hmap, List.append_assoc]
      rfl
    have fin1 : ∀ (b0 : Int), b0 = (ruleS r).f0 → canon_rules.j1 (Z + 2) acc L (L.length : Int) (i : Int) r.f0 r.f1 r.f2 r.f3 r.f4 r.f5 b0 0 0 r.f1 0 0 r.f2 0 0 ((r.f3.length : Int) == 0) r.f4 0 = some (acc ++ (L.map ruleS).drop i) := by
      intro b0 hb
      simp only [canon_rules.j1]
      by_cases h : r.f4 = 0
      · rw [if_pos h]; exact fin b0 0 (by rw [hb]; simp [ruleS, h])
      · rw [if_neg h]; exact fin b0 r.f5 (by rw [hb]; simp [ruleS, h])
    simp only [canon_rules.l0]
    rw [if_pos (by omega), if_pos (by omega), if_pos (by omega), rd51_n L i hlt, ← hrr]
    by_cases h : r.f0 = true
    · rw [if_pos h]; exact fin1 11 (by simp [ruleS, h])
    · rw [if_neg h]; exact fin1 10 (by simp [ruleS, h])
theorem rules_f (d : PolD) (hL : d.rules.length ≤ 1048576) (he : ∀ r ∈ d.rules, r.f3.length ≤ 1048576) : rulesF (need d.rules + 1) d = some (d.rules.map ruleS) := by
  have h := rules_l0 d.rules hL he d.rules.length 0 (need d.rules + 1) [] (by omega) (by simp) (by simp; omega)
  unfold rulesF canon_rules.f
  simpa using h
/-! ### The document's -/
theorem exc_l2 (d : PolD) (hl : d.exc.length ≤ 1048576) : ∀ (n i q : Nat) (acc : List S47), i + n = d.exc.length → n < q → acc.length + n ≤ 1073741824 → gatehouseref05_Decls.l2 q acc (i : Int) d.acts d.subs d.roles d.objs d.grps d.mem d.inh d.par d.wit d.rules d.exc = some (acc ++ (excL d.exc).drop i) := by
  intro n
  induction n with
  | zero =>
    intro i q acc hi hq _
    obtain ⟨q, rfl⟩ : ∃ m, q = m + 1 := ⟨q - 1, by omega⟩
    simp only [gatehouseref05_Decls.l2]
    rw [if_neg (by omega), List.drop_of_length_le (by unfold excL; rw [List.length_map]; omega), List.append_nil]
  | succ n ih =>
    intro i q acc hi hq ha
    obtain ⟨q, rfl⟩ : ∃ m, q = m + 1 := ⟨q - 1, by omega⟩
    simp only [gatehouseref05_Decls.l2]
    rw [if_pos (by omega), if_pos (by omega), if_pos (by omega), wrap_n i (by omega), rd53_n d.exc i (by omega), ih (i + 1) q _ (by omega) (by omega) (by rw [List.length_append, List.length_singleton]; omega)]
    unfold excL
    rw [drop_map _ d.exc i (by omega), List.append_assoc]
    rfl
theorem rules_r1 (d : PolD) (hl : d.rules.length ≤ 1048576) (hx : d.exc.length ≤ 1048576) (he : ∀ r ∈ d.rules, r.f3.length ≤ 1048576) : ∀ (n i q : Nat) (acc : List S47), i + n = d.rules.length → n + d.exc.length + 1048580 < q → acc.length + n + d.exc.length ≤ 1073741824 → gatehouseref05_Decls.l1 q acc (i : Int) d.acts d.subs d.roles d.objs d.grps d.mem d.inh d.par d.wit d.rules d.exc = some (acc ++ (d.rules.map ruleS).drop i ++ excL d.exc) := by
  intro n
  induction n with
  | zero =>
    intro i q acc hi hq ha
    obtain ⟨q, rfl⟩ : ∃ m, q = m + 1 := ⟨q - 1, by omega⟩
    simp only [gatehouseref05_Decls.l1]
    rw [if_neg (by omega), List.drop_of_length_le (by rw [List.length_map]; omega), List.append_nil]
    have h := exc_l2 d hx d.exc.length 0 q acc (by omega) (by omega) (by omega)
    simpa using h
  | succ n ih =>
    intro i q acc hi hq ha
    have hlt : i < d.rules.length := by omega
    have hr := he d.rules[i] (List.getElem_mem hlt)
    obtain ⟨q, rfl⟩ : ∃ m, q = m + 1 := ⟨q - 1, by omega⟩
    simp only [gatehouseref05_Decls.l1]
    rw [if_pos (by omega), if_pos (by omega), rd51_n d.rules i hlt, rule_f d.rules[i] hr q (by omega)]
    simp only [Option.bind_some]
    rw [if_pos (by omega), wrap_n i (by omega), ih (i + 1) q _ (by omega) (by omega) (by rw [List.length_append, List.length_singleton]; omega), drop_map _ d.rules i hlt]
    simp only [List.append_assoc]
    rfl
theorem subs_r0 (d : PolD) (hd : Lens d) (he : ∀ r ∈ d.rules, r.f3.length ≤ 1048576) : ∀ (n i q : Nat) (acc : List S47), i + n = d.subs.length → n + 4194312 < q → acc.length + n ≤ 4194304 → gatehouseref05_Decls.l0 q acc (i : Int) d.acts d.subs d.roles d.objs d.grps d.mem d.inh d.par d.wit d.rules d.exc = some (acc ++ (subjL d.subs).drop i ++ singleL 3 d.roles ++ singleL 4 d.objs ++ singleL 5 d.grps ++ doubleL 6 d.mem ++ doubleL 7 d.inh ++ doubleL 8 d.par ++ doubleL 9 d.wit ++ d.rules.map ruleS ++ excL d.exc) := by
  have c2 := hd.roles
  have c3 := hd.objs
  have c4 := hd.grps
  have c5 := hd.mem
  have c6 := hd.inh
  have c7 := hd.par
  have c8 := hd.wit
  have c9 := hd.rules
  have c10 := hd.exc
  have cs := hd.subs
  have s3 : (singleL 3 d.roles).length = d.roles.length := by simp [singleL]
  have s4 : (singleL 4 d.objs).length = d.objs.length := by simp [singleL]
  have s5 : (singleL 5 d.grps).length = d.grps.length := by simp [singleL]
  have s6 : (doubleL 6 d.mem).length = d.mem.length := by simp [doubleL]
  have s7 : (doubleL 7 d.inh).length = d.inh.length := by simp [doubleL]
  have s8 : (doubleL 8 d.par).length = d.par.length := by simp [doubleL]
  have s9 : (doubleL 9 d.wit).length = d.wit.length := by simp [doubleL]
  intro n
  induction n with
  | zero =>
    intro i q acc hi hq ha
    obtain ⟨q, rfl⟩ : ∃ m, q = m + 1 := ⟨q - 1, by omega⟩
    simp only [gatehouseref05_Decls.l0]
    rw [if_neg (by omega), List.drop_of_length_le (by unfold subjL; rw [List.length_map]; omega), List.append_nil]
    rw [single_f 3 d.roles c2 q (by omega)]; simp only [Option.bind_some]; rw [if_pos (by omega)]
    rw [single_f 4 d.objs c3 q (by omega)]; simp only [Option.bind_some]; rw [if_pos (by simp only [List.length_append]; omega)]
    rw [single_f 5 d.grps c4 q (by omega)]; simp only [Option.bind_some]; rw [if_pos (by simp only [List.length_append]; omega)]
    rw [double_f 6 d.mem c5 q (by omega)]; simp only [Option.bind_some]; rw [if_pos (by simp only [List.length_append]; omega)]
    rw [double_f 7 d.inh c6 q (by omega)]; simp only [Option.bind_some]; rw [if_pos (by simp only [List.length_append]; omega)]
    rw [double_f 8 d.par c7 q (by omega)]; simp only [Option.bind_some]; rw [if_pos (by simp only [List.length_append]; omega)]
    rw [double_f 9 d.wit c8 q (by omega)]; simp only [Option.bind_some]; rw [if_pos (by simp only [List.length_append]; omega)]
    have h := rules_r1 d c9 c10 he d.rules.length 0 q (acc ++ singleL 3 d.roles ++ singleL 4 d.objs ++ singleL 5 d.grps ++ doubleL 6 d.mem ++ doubleL 7 d.inh ++ doubleL 8 d.par ++ doubleL 9 d.wit) (by omega) (by omega) (by simp only [List.length_append]; omega)
    simpa using h
  | succ n ih =>
    intro i q acc hi hq ha
    obtain ⟨q, rfl⟩ : ∃ m, q = m + 1 := ⟨q - 1, by omega⟩
    simp only [gatehouseref05_Decls.l0]
    rw [if_pos (by omega), if_pos (by omega), if_pos (by omega), wrap_n i (by omega), rd42_n d.subs i (by omega), ih (i + 1) q _ (by omega) (by omega) (by rw [List.length_append, List.length_singleton]; omega)]
    unfold subjL
    rw [drop_map _ d.subs i (by omega)]
    simp only [List.append_assoc]
    rfl
theorem decls_f (d : PolD) (hd : Lens d) (he : ∀ r ∈ d.rules, r.f3.length ≤ 1048576) : KLaw.refF 8388608 d = some (declsL d (d.rules.map ruleS)) := by
  have c0 := hd.acts
  have c1 := hd.subs
  unfold KLaw.refF gatehouseref05_Decls.f
  rw [single_f 1 d.acts c0 _ (by omega)]
  simp only [Option.bind_some]
  have h := subs_r0 d hd he d.subs.length 0 8388608 (singleL 1 d.acts) (by omega) (by omega) (by simp [singleL]; omega)
  simpa [declsL] using h
/-! ### A list is itself -/
theorem rd47_n (l : List S47) (i : Nat) (h : i < l.length) : rd_T47 l (i : Int) = l[i] := by simp [rd_T47, List.getD_eq_getElem?_getD, h]
theorem words_self (l : List S44) (hl : l.length ≤ 4194304) (q : Nat) (hq : l.length < q) : gatehouseref05_words.f q l l = some true := by
  have go : ∀ (n i q : Nat), i + n = l.length → n < q → gatehouseref05_words.l0 q l l (i : Int) = some true := by
    intro n
    induction n with
    | zero =>
      intro i q hi hq
      obtain ⟨q, rfl⟩ : ∃ m, q = m + 1 := ⟨q - 1, by omega⟩
      simp only [gatehouseref05_words.l0]
      rw [if_neg (by omega)]
    | succ n ih =>
      intro i q hi hq
      obtain ⟨q, rfl⟩ : ∃ m, q = m + 1 := ⟨q - 1, by omega⟩
      simp only [gatehouseref05_words.l0]
      rw [if_pos (by omega), if_pos (by omega), if_pos (by omega), if_neg (by simp), wrap_n i (by omega)]
      exact ih (i + 1) q (by omega) (by omega)
  unfold gatehouseref05_words.f
  rw [if_pos rfl]
  exact go l.length 0 q (by omega) hq
theorem same_self (x : Nat) : gatehouseref05_same.f x x = some true := by
  unfold gatehouseref05_same.f
  by_cases h : feq x x = true
  · rw [if_pos h]
  · rw [if_neg h]
    have h2 : fne x x = true := by
      unfold feq at h
      unfold fne
      simpa using h
    rw [if_pos h2, h2]
theorem decl_self (x : S47) (hl : x.f5.length ≤ 4194304) (q : Nat) (hq : x.f5.length < q) : gatehouseref05_SameDecl.f q x.f0 x.f1 x.f2 x.f3.f0 x.f3.f1 x.f3.f2 x.f4.f0 x.f4.f1 x.f4.f2 x.f5 x.f6 x.f7 x.f8 x.f0 x.f1 x.f2 x.f3.f0 x.f3.f1 x.f3.f2 x.f4.f0 x.f4.f1 x.f4.f2 x.f5 x.f6 x.f7 x.f8 = some true := by
  unfold gatehouseref05_SameDecl.f
  simp only [if_true, beq_self_eq_true, Bool.and_self, same_self, Option.bind_some, words_self x.f5 hl q hq]
theorem decls_self (l : List S47) (hl : l.length ≤ 4194304) (he : ∀ x ∈ l, x.f5.length ≤ 4194304) (q : Nat) (hq : l.length + 4194305 < q) : gatehouseref05_SameDecls.f q l l = some true := by
  have go : ∀ (n i q : Nat), i + n = l.length → n + 4194305 < q → gatehouseref05_SameDecls.l0 q l l (i : Int) = some true := by
    intro n
    induction n with
    | zero =>
      intro i q hi hq
      obtain ⟨q, rfl⟩ : ∃ m, q = m + 1 := ⟨q - 1, by omega⟩
      simp only [gatehouseref05_SameDecls.l0]
      rw [if_neg (by omega)]
    | succ n ih =>
      intro i q hi hq
      obtain ⟨q, rfl⟩ : ∃ m, q = m + 1 := ⟨q - 1, by omega⟩
      have hlt : i < l.length := by omega
      have hx := he l[i] (List.getElem_mem hlt)
      simp only [gatehouseref05_SameDecls.l0]
      rw [if_pos (by omega), if_pos (by omega), if_pos (by omega), rd47_n l i hlt, decl_self l[i] hx q (by omega)]
      simp only [Option.bind_some, if_true]
      rw [wrap_n i (by omega)]
      exact ih (i + 1) q (by omega) (by omega)
  unfold gatehouseref05_SameDecls.f
  rw [if_pos rfl]
  exact go l.length 0 q (by omega) hq
theorem ok (d : PolD) (hd : KRoom.Lens d) (hs : d.acts.length + d.subs.length + d.roles.length + d.objs.length + d.grps.length + d.mem.length + d.inh.length + d.par.length + d.wit.length + d.rules.length + d.exc.length ≤ 4194304) :
    KLaw.Ok d (need d.rules + 1) (d.rules.map ruleS) 8388608 (declsL d (d.rules.map ruleS)) 16777216 := by
  have hL : Lens d := ⟨hd.acts, hd.subs, hd.roles, hd.objs, hd.grps, hd.mem, hd.inh, hd.par, hd.wit, hd.rules, hd.exc⟩
  have hlen : (declsL d (d.rules.map ruleS)).length ≤ 4194304 := by
    simp only [declsL, singleL, doubleL, subjL, excL, List.length_append, List.length_map]
    omega
  have heach : ∀ x ∈ declsL d (d.rules.map ruleS), x.f5.length ≤ 4194304 := by
    intro x hx
    simp only [declsL, singleL, doubleL, subjL, excL, List.mem_append, List.mem_map] at hx
    rcases hx with ((((((((((⟨_, _, rfl⟩ | ⟨_, _, rfl⟩) | ⟨_, _, rfl⟩) | ⟨_, _, rfl⟩) | ⟨_, _, rfl⟩) | ⟨_, _, rfl⟩) | ⟨_, _, rfl⟩) | ⟨_, _, rfl⟩) | ⟨_, _, rfl⟩) | ⟨r, hr, rfl⟩) | ⟨_, _, rfl⟩)
    all_goals try (simp; done)
    have := hd.each r hr
    simp [ruleS, namesL]
    omega
  refine ⟨hd, rules_f d hd.rules hd.each, by rw [List.length_map]; exact hd.rules, decls_f d hL hd.each, decls_self _ hlen heach _ (by omega), hlen, fun i => ?_⟩
  rcases Nat.lt_or_ge i (declsL d (d.rules.map ruleS)).length with h | h
  · rw [rd47_n _ i h]
    exact heach _ (List.getElem_mem h)
  · rw [show rd_T47 (declsL d (d.rules.map ruleS)) (i : Int) = z47 by simp [rd_T47, List.getD_eq_getElem?_getD, List.getElem?_eq_none h]]
    exact Nat.zero_le _
end Go.Proofs.Ytacggjhgdkkclaa.KPure2
