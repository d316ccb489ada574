/- graph.Valid, walked. -/
import Derived.Test.YthaiodklfoegiaaGDiffer
import Derived.Test.YthaiodklfoegiaaVPure2
namespace Go.Proofs.Ythaiodklfoegiaa.GValid
open Go.RowKit Go.Proofs.YthaiodklfoegiaaW.PrintWords Go.Proofs.YthaiodklfoegiaaW.PrintLast Go.Proofs.YthaiodklfoegiaaW.PrintMore Go.Proofs.Ythaiodklfoegiaa.BMap Go.Proofs.Ythaiodklfoegiaa.BRow Go.Proofs.Ythaiodklfoegiaa.GDiffer Go.Proofs.Ythaiodklfoegiaa.VPure Go.Maps
open Go.Proofs.Ythaiodklfoegiaa

theorem once_any (A : Option Addr) (c : Nat) (l : List ByteArray) (w : World) (hC : Kd.C Kd.string w A l.length l) (hc : l.length ≤ c) :
    Calls Try.prog 33 #[.slice A l.length c] w fun e w' => e = .returned (.bool (onceB l)) ∧ Drawn0 w w' :=
  let ⟨k, hk⟩ := (once_f l hC.2.1).rounds
  PG.graph_once.calls k A c l _ w hC hc hk
theorem counted_any (A : Option Addr) (c : Nat) (l : List Int) (w : World) (hC : Kd.C (Kd.int .i64) w A l.length l) (hc : l.length ≤ c) :
    Calls Try.prog 34 #[.slice A l.length c] w fun e w' => e = .returned (.tuple #[.int .i64 (told (great 0 l)).1, .bool (told (great 0 l)).2]) ∧ Below w.heap.size w w' :=
  let ⟨k, hk⟩ := (counted_f l hC.2.1).rounds
  PG.graph_counted.calls k A c l _ _ w hC hc hk

/-- A graph in a call's arguments. -/
structure G where
  A0 : Option Addr
  c0 : Nat
  la : List ByteArray
  A1 : Option Addr
  c1 : Nat
  ls : List ByteArray
  A2 : Option Addr
  c2 : Nat
  lo : List ByteArray
  A3 : Option Addr
  c3 : Nat
  of : List Int
  A4 : Option Addr
  c4 : Nat
  on : List Int
  A5 : Option Addr
  c5 : Nat
  ms : List (List Int)
def G.val (g : G) : Value := .agg #[.slice g.A0 g.la.length g.c0, .slice g.A1 g.ls.length g.c1, .slice g.A2 g.lo.length g.c2, .slice g.A3 g.of.length g.c3, .slice g.A4 g.on.length g.c4, .slice g.A5 g.ms.length g.c5]
structure G.In (g : G) (w : World) : Prop where
  h0 : Kd.C Kd.string w g.A0 g.la.length g.la
  h1 : Kd.C Kd.string w g.A1 g.ls.length g.ls
  h2 : Kd.C Kd.string w g.A2 g.lo.length g.lo
  h3 : Kd.C (Kd.int .i64) w g.A3 g.of.length g.of
  h4 : Kd.C (Kd.int .i64) w g.A4 g.on.length g.on
  h5 : Kd.C (Kd.slice 31 (Kd.int .u16)) w g.A5 g.ms.length g.ms
  l0 : g.la.length ≤ g.c0
  l1 : g.ls.length ≤ g.c1
  l2 : g.lo.length ≤ g.c2
  l3 : g.of.length ≤ g.c3
  l4 : g.on.length ≤ g.c4
  l5 : g.ms.length ≤ g.c5
  u16 : ∀ row ∈ g.ms, ∀ x ∈ row, (Lit.int .u16 x).wf = true
theorem G.In.below {g : G} {w w1 : World} (h : g.In w) (hb : Below w.heap.size w w1) : g.In w1 :=
  ⟨Kd.C_below h.h0 hb, Kd.C_below h.h1 hb, Kd.C_below h.h2 hb, Kd.C_below h.h3 hb, Kd.C_below h.h4 hb, Kd.C_below h.h5 hb, h.l0, h.l1, h.l2, h.l3, h.l4, h.l5, h.u16⟩
theorem G.In.alloc {g : G} {w : World} (h : g.In w) (o : Obj) : g.In (w.alloc o) := h.below (below_alloc (Below.refl _ _) o)
theorem G.In.drewN {g : G} {w : World} (h : g.In w) (n : Nat) : g.In (w.drewN n) := h.below (pw_below_drewN (Below.refl _ _) n)
theorem G.In.drew {g : G} {w : World} (h : g.In w) : g.In w.drew := h.below (below_drew (Below.refl _ _))

set_option maxHeartbeats 2000000 in
set_option maxRecDepth 100000 in
/-- Too long. -/
theorem valid1 (g : G) (w : World) (hc : ¬ (g.la.length ≤ 16 ∧ g.ls.length ≤ 64 ∧ g.lo.length ≤ 64)) :
    Calls Try.prog 12 #[g.val] w fun e w' => e = .returned (.bool false) ∧ Below w.heap.size w w' := by
  unfold G.val
  by_cases c0 : g.la.length ≤ 16
  · by_cases c1 : g.ls.length ≤ 64
    · have c2 : ¬ g.lo.length ≤ 64 := fun c2 => hc ⟨c0, c1, c2⟩
      clear hc
      go_enter Try.func12, Try.ntmps12
      go_wp2_with fail
      go_ret
      exact ⟨rfl, (Below.refl _ _).alloc (Nat.le_refl _) _⟩
    · clear hc
      go_enter Try.func12, Try.ntmps12
      go_wp2_with fail
      go_ret
      exact ⟨rfl, (Below.refl _ _).alloc (Nat.le_refl _) _⟩
  · clear hc
    go_enter Try.func12, Try.ntmps12
    go_wp2_with fail
    go_ret
    exact ⟨rfl, (Below.refl _ _).alloc (Nat.le_refl _) _⟩

/-- The call of once over one of the names' lists. -/
theorem once_go (A : Option Addr) (c : Nat) (l : List ByteArray) (w : World) (r : Bool) (hr : onceB l = r) (hC : Kd.C Kd.string w A l.length l) (hc : l.length ≤ c) :
    Calls Try.prog 33 #[.slice A l.length c] w fun e w' => e = .returned (.bool r) ∧ Drawn0 w w' := by
  subst hr; exact once_any A c l w hC hc
theorem counted_go (A : Option Addr) (c : Nat) (l : List Int) (w : World) (n : Int) (r : Bool) (hr : told (great 0 l) = (n, r)) (hC : Kd.C (Kd.int .i64) w A l.length l) (hc : l.length ≤ c) :
    Calls Try.prog 34 #[.slice A l.length c] w fun e w' => e = .returned (.tuple #[.int .i64 n, .bool r]) ∧ Below w.heap.size w w' := by
  have := counted_any A c l w hC hc
  rw [hr] at this
  exact this

set_option maxHeartbeats 4000000 in
set_option maxRecDepth 100000 in
/-- Names that stand twice. -/
theorem valid2a (g : G) (w : World) (hg : g.In w) (h0 : g.la.length ≤ 16) (h1 : g.ls.length ≤ 64) (h2 : g.lo.length ≤ 64) (b0 : onceB g.la = false) :
    Calls Try.prog 12 #[g.val] w fun e w' => e = .returned (.bool false) ∧ Below w.heap.size w w' := by
  unfold G.val
  have HG := Aside0.mk hg
  have B0 := Aside0.mk b0
  clear hg b0
  go_enter Try.func12, Try.ntmps12
  go_wp2_with (first | (go_at_call 33; (with_reducible refine (once_go g.A0 g.c0 g.la _ false B0.out ?s1 HG.out.l0).mono ?_); (case s1 => repeat (first | exact HG.out.h0 | (with_reducible refine Kd.C_alloc ?_ _) | (with_reducible refine Kd.C_drewN ?_ _) | (with_reducible refine Kd.C_drew ?_))); rintro e w' ⟨rfl, ⟨nd, rfl⟩⟩))
  go_ret
  exact ⟨rfl, pw_below_drewN ((Below.refl _ _).alloc (Nat.le_refl _) _) _⟩
set_option maxHeartbeats 4000000 in
set_option maxRecDepth 100000 in
/-- Names that stand twice. -/
theorem valid2b (g : G) (w : World) (hg : g.In w) (h0 : g.la.length ≤ 16) (h1 : g.ls.length ≤ 64) (h2 : g.lo.length ≤ 64) (b0 : onceB g.la = true) (b1 : onceB g.ls = false) :
    Calls Try.prog 12 #[g.val] w fun e w' => e = .returned (.bool false) ∧ Below w.heap.size w w' := by
  unfold G.val
  have HG := Aside0.mk hg
  have B0 := Aside0.mk b0
  have B1 := Aside0.mk b1
  clear hg b0 b1
  go_enter Try.func12, Try.ntmps12
  go_wp2_with (first | (go_at_call 33; (with_reducible refine (once_go g.A0 g.c0 g.la _ true B0.out ?s1 HG.out.l0).mono ?_); (case s1 => repeat (first | exact HG.out.h0 | (with_reducible refine Kd.C_alloc ?_ _) | (with_reducible refine Kd.C_drewN ?_ _) | (with_reducible refine Kd.C_drew ?_))); rintro e w' ⟨rfl, ⟨nd, rfl⟩⟩) | (go_at_call 33; (with_reducible refine (once_go g.A1 g.c1 g.ls _ false B1.out ?s1 HG.out.l1).mono ?_); (case s1 => repeat (first | exact HG.out.h1 | (with_reducible refine Kd.C_alloc ?_ _) | (with_reducible refine Kd.C_drewN ?_ _) | (with_reducible refine Kd.C_drew ?_))); rintro e w' ⟨rfl, ⟨nd, rfl⟩⟩))
  go_ret
  exact ⟨rfl, pw_below_drewN ((Below.refl _ _).alloc (Nat.le_refl _) _) _⟩
set_option maxHeartbeats 4000000 in
set_option maxRecDepth 100000 in
/-- Names that stand twice. -/
theorem valid2c (g : G) (w : World) (hg : g.In w) (h0 : g.la.length ≤ 16) (h1 : g.ls.length ≤ 64) (h2 : g.lo.length ≤ 64) (b0 : onceB g.la = true) (b1 : onceB g.ls = true) (b2 : onceB g.lo = false) :
    Calls Try.prog 12 #[g.val] w fun e w' => e = .returned (.bool false) ∧ Below w.heap.size w w' := by
  unfold G.val
  have HG := Aside0.mk hg
  have B0 := Aside0.mk b0
  have B1 := Aside0.mk b1
  have B2 := Aside0.mk b2
  clear hg b0 b1 b2
  go_enter Try.func12, Try.ntmps12
  go_wp2_with (first | (go_at_call 33; (with_reducible refine (once_go g.A0 g.c0 g.la _ true B0.out ?s1 HG.out.l0).mono ?_); (case s1 => repeat (first | exact HG.out.h0 | (with_reducible refine Kd.C_alloc ?_ _) | (with_reducible refine Kd.C_drewN ?_ _) | (with_reducible refine Kd.C_drew ?_))); rintro e w' ⟨rfl, ⟨nd, rfl⟩⟩) | (go_at_call 33; (with_reducible refine (once_go g.A1 g.c1 g.ls _ true B1.out ?s1 HG.out.l1).mono ?_); (case s1 => repeat (first | exact HG.out.h1 | (with_reducible refine Kd.C_alloc ?_ _) | (with_reducible refine Kd.C_drewN ?_ _) | (with_reducible refine Kd.C_drew ?_))); rintro e w' ⟨rfl, ⟨nd, rfl⟩⟩) | (go_at_call 33; (with_reducible refine (once_go g.A2 g.c2 g.lo _ false B2.out ?s1 HG.out.l2).mono ?_); (case s1 => repeat (first | exact HG.out.h2 | (with_reducible refine Kd.C_alloc ?_ _) | (with_reducible refine Kd.C_drewN ?_ _) | (with_reducible refine Kd.C_drew ?_))); rintro e w' ⟨rfl, ⟨nd, rfl⟩⟩))
  go_ret
  exact ⟨rfl, pw_below_drewN ((Below.refl _ _).alloc (Nat.le_refl _) _) _⟩
set_option maxHeartbeats 4000000 in
set_option maxRecDepth 100000 in
/-- Too few or too many classes. -/
theorem valid2d (g : G) (w : World) (hg : g.In w) (h0 : g.la.length ≤ 16) (h1 : g.ls.length ≤ 64) (h2 : g.lo.length ≤ 64) (b0 : onceB g.la = true) (b1 : onceB g.ls = true) (b2 : onceB g.lo = true) (hof : ¬ g.of.length = g.ls.length) :
    Calls Try.prog 12 #[g.val] w fun e w' => e = .returned (.bool false) ∧ Below w.heap.size w w' := by
  unfold G.val
  have HG := Aside0.mk hg
  have B0 := Aside0.mk b0
  have B1 := Aside0.mk b1
  have B2 := Aside0.mk b2
  clear hg b0 b1 b2
  go_enter Try.func12, Try.ntmps12
  go_wp2_with (first | (go_at_call 33; (with_reducible refine (once_go g.A0 g.c0 g.la _ true B0.out ?s1 HG.out.l0).mono ?_); (case s1 => repeat (first | exact HG.out.h0 | (with_reducible refine Kd.C_alloc ?_ _) | (with_reducible refine Kd.C_drewN ?_ _) | (with_reducible refine Kd.C_drew ?_))); rintro e w' ⟨rfl, ⟨nd, rfl⟩⟩) | (go_at_call 33; (with_reducible refine (once_go g.A1 g.c1 g.ls _ true B1.out ?s1 HG.out.l1).mono ?_); (case s1 => repeat (first | exact HG.out.h1 | (with_reducible refine Kd.C_alloc ?_ _) | (with_reducible refine Kd.C_drewN ?_ _) | (with_reducible refine Kd.C_drew ?_))); rintro e w' ⟨rfl, ⟨nd, rfl⟩⟩) | (go_at_call 33; (with_reducible refine (once_go g.A2 g.c2 g.lo _ true B2.out ?s1 HG.out.l2).mono ?_); (case s1 => repeat (first | exact HG.out.h2 | (with_reducible refine Kd.C_alloc ?_ _) | (with_reducible refine Kd.C_drewN ?_ _) | (with_reducible refine Kd.C_drew ?_))); rintro e w' ⟨rfl, ⟨nd, rfl⟩⟩))
  go_ret
  exact ⟨rfl, pw_below_drewN ((Below.refl _ _).alloc (Nat.le_refl _) _) _⟩
set_option maxHeartbeats 4000000 in
set_option maxRecDepth 100000 in
/-- Too few or too many classes. -/
theorem valid2e (g : G) (w : World) (hg : g.In w) (h0 : g.la.length ≤ 16) (h1 : g.ls.length ≤ 64) (h2 : g.lo.length ≤ 64) (b0 : onceB g.la = true) (b1 : onceB g.ls = true) (b2 : onceB g.lo = true) (hof : g.of.length = g.ls.length) (hon : ¬ g.on.length = g.lo.length) :
    Calls Try.prog 12 #[g.val] w fun e w' => e = .returned (.bool false) ∧ Below w.heap.size w w' := by
  unfold G.val
  have HG := Aside0.mk hg
  have B0 := Aside0.mk b0
  have B1 := Aside0.mk b1
  have B2 := Aside0.mk b2
  clear hg b0 b1 b2
  go_enter Try.func12, Try.ntmps12
  go_wp2_with (first | (go_at_call 33; (with_reducible refine (once_go g.A0 g.c0 g.la _ true B0.out ?s1 HG.out.l0).mono ?_); (case s1 => repeat (first | exact HG.out.h0 | (with_reducible refine Kd.C_alloc ?_ _) | (with_reducible refine Kd.C_drewN ?_ _) | (with_reducible refine Kd.C_drew ?_))); rintro e w' ⟨rfl, ⟨nd, rfl⟩⟩) | (go_at_call 33; (with_reducible refine (once_go g.A1 g.c1 g.ls _ true B1.out ?s1 HG.out.l1).mono ?_); (case s1 => repeat (first | exact HG.out.h1 | (with_reducible refine Kd.C_alloc ?_ _) | (with_reducible refine Kd.C_drewN ?_ _) | (with_reducible refine Kd.C_drew ?_))); rintro e w' ⟨rfl, ⟨nd, rfl⟩⟩) | (go_at_call 33; (with_reducible refine (once_go g.A2 g.c2 g.lo _ true B2.out ?s1 HG.out.l2).mono ?_); (case s1 => repeat (first | exact HG.out.h2 | (with_reducible refine Kd.C_alloc ?_ _) | (with_reducible refine Kd.C_drewN ?_ _) | (with_reducible refine Kd.C_drew ?_))); rintro e w' ⟨rfl, ⟨nd, rfl⟩⟩))
  go_ret
  exact ⟨rfl, pw_below_drewN ((Below.refl _ _).alloc (Nat.le_refl _) _) _⟩

/-- .. where there are as many classes as names. -/
def G.cells (g : G) : Array Value := #[.slice g.A0 g.la.length g.c0, .slice g.A1 g.ls.length g.c1, .slice g.A2 g.lo.length g.c2, .slice g.A3 g.ls.length g.c3, .slice g.A4 g.lo.length g.c4, .slice g.A5 g.ms.length g.c5]
theorem counted_to (A : Option Addr) (c : Nat) (l : List Int) (w : World) (n : Int) (r : Bool) (q : Nat) (hq : l.length = q) (hr : told (great 0 l) = (n, r)) (hC : Kd.C (Kd.int .i64) w A l.length l) (hc : l.length ≤ c) :
    Calls Try.prog 34 #[.slice A q c] w fun e w' => e = .returned (.tuple #[.int .i64 n, .bool r]) ∧ Below w.heap.size w w' := by
  subst hq; exact counted_go A c l w n r hr hC hc
/-- The parameter's variable lies where it was laid. -/
structure Boxed (g : G) (w w1 : World) : Prop where
  below : Below w.heap.size w w1
  box : w1.heap[w.heap.size]? = some (.cells g.cells 26 (0, 0))
theorem Boxed.start (g : G) (w : World) (n : Nat) : Boxed g w ((w.alloc (.cells g.cells 26)).drewN n) := ⟨pw_below_drewN ((Below.refl _ _).alloc (Nat.le_refl _) _) _, by simp only [World.heap_drewN]; exact heap_alloc_new w _⟩
theorem Boxed.go {g : G} {w w1 w2 : World} (h : Boxed g w w1) (hb : Below w1.heap.size w1 w2) : Boxed g w w2 := by
  have hlt := (Array.getElem?_eq_some_iff.1 h.box).1
  exact ⟨h.below.trans (hb.mono (Nat.le_of_lt hlt)), by rw [hb.block _ hlt]; exact h.box⟩
theorem Boxed.cell {g : G} {w w1 : World} (h : Boxed g w w1) (j : Nat) : w1.cell? ⟨w.heap.size, j, none⟩ = g.cells[j]? := by
  rw [cell_of_row _ _ _ _ _ _ h.box]
theorem Boxed.c0 {g : G} {w w1 : World} (h : Boxed g w w1) : w1.cell? ⟨w.heap.size, 0, none⟩ = some (.slice g.A0 g.la.length g.c0) := h.cell 0
theorem Boxed.c1 {g : G} {w w1 : World} (h : Boxed g w w1) : w1.cell? ⟨w.heap.size, 1, none⟩ = some (.slice g.A1 g.ls.length g.c1) := h.cell 1
theorem Boxed.c2 {g : G} {w w1 : World} (h : Boxed g w w1) : w1.cell? ⟨w.heap.size, 2, none⟩ = some (.slice g.A2 g.lo.length g.c2) := h.cell 2
theorem Boxed.c3 {g : G} {w w1 : World} (h : Boxed g w w1) : w1.cell? ⟨w.heap.size, 3, none⟩ = some (.slice g.A3 g.ls.length g.c3) := h.cell 3
theorem Boxed.c4 {g : G} {w w1 : World} (h : Boxed g w w1) : w1.cell? ⟨w.heap.size, 4, none⟩ = some (.slice g.A4 g.lo.length g.c4) := h.cell 4
theorem Boxed.c5 {g : G} {w w1 : World} (h : Boxed g w w1) : w1.cell? ⟨w.heap.size, 5, none⟩ = some (.slice g.A5 g.ms.length g.c5) := h.cell 5
set_option maxHeartbeats 4000000 in
set_option maxRecDepth 100000 in
/-- Classes not as they come. -/
theorem valid3a (g : G) (w : World) (hg : g.In w) (h0 : g.la.length ≤ 16) (h1 : g.ls.length ≤ 64) (h2 : g.lo.length ≤ 64) (b0 : onceB g.la = true) (b1 : onceB g.ls = true) (b2 : onceB g.lo = true) (hof : g.of.length = g.ls.length) (hon : g.on.length = g.lo.length) (tn tm : Int) (tok tis : Bool) (t3 : told (great 0 g.of) = (tn, tok)) (t4 : told (great 0 g.on) = (tm, tis)) (hb : tok = false) :
    Calls Try.prog 12 #[g.val] w fun e w' => e = .returned (.bool false) ∧ Below w.heap.size w w' := by
  unfold G.val
  have HG := Aside0.mk hg
  have B0 := Aside0.mk b0
  have B1 := Aside0.mk b1
  have B2 := Aside0.mk b2
  subst hb
  have HO3 := Aside0.mk hof
  have HO4 := Aside0.mk hon
  have T3 := Aside0.mk t3
  have T4 := Aside0.mk t4
  clear hg b0 b1 b2 t3 t4
  go_enter Try.func12, Try.ntmps12
  go_wp2_with (first | (go_at_call 33; (with_reducible refine (once_go g.A0 g.c0 g.la _ true B0.out ?s1 HG.out.l0).mono ?_); (case s1 => repeat (first | exact HG.out.h0 | (with_reducible refine Kd.C_alloc ?_ _) | (with_reducible refine Kd.C_drewN ?_ _) | (with_reducible refine Kd.C_drew ?_))); rintro e w' ⟨rfl, ⟨nd, rfl⟩⟩) | (go_at_call 33; (with_reducible refine (once_go g.A1 g.c1 g.ls _ true B1.out ?s1 HG.out.l1).mono ?_); (case s1 => repeat (first | exact HG.out.h1 | (with_reducible refine Kd.C_alloc ?_ _) | (with_reducible refine Kd.C_drewN ?_ _) | (with_reducible refine Kd.C_drew ?_))); rintro e w' ⟨rfl, ⟨nd, rfl⟩⟩) | (go_at_call 33; (with_reducible refine (once_go g.A2 g.c2 g.lo _ true B2.out ?s1 HG.out.l2).mono ?_); (case s1 => repeat (first | exact HG.out.h2 | (with_reducible refine Kd.C_alloc ?_ _) | (with_reducible refine Kd.C_drewN ?_ _) | (with_reducible refine Kd.C_drew ?_))); rintro e w' ⟨rfl, ⟨nd, rfl⟩⟩) | (go_at_call 34; (with_reducible refine (counted_to g.A3 g.c3 g.of _ tn false _ HO3.out T3.out ?s1 HG.out.l3).mono ?_); (case s1 => first | exact (HG.out.below (Boxed.start g w _).below).h3 | exact (HG.out.below (Aside0.out ‹Aside0 (Boxed g w _)›).below).h3); rintro e w2 ⟨rfl, hb2⟩; have BX := Boxed.go (Boxed.start g w _) hb2; have e5 := BX.c5; have e4 := BX.c4; have e0 := BX.c0; have BX := Aside0.mk BX; clear hb2) | (go_at_call 34; (with_reducible refine (counted_to g.A4 g.c4 g.on _ tm tis _ HO4.out T4.out ?s1 HG.out.l4).mono ?_); (case s1 => first | exact (HG.out.below (Boxed.start g w _).below).h4 | exact (HG.out.below (Aside0.out ‹Aside0 (Boxed g w _)›).below).h4); rintro e w2 ⟨rfl, hb2⟩; have BX := Boxed.go (Aside0.out ‹Aside0 (Boxed g w _)›) hb2; have e5 := BX.c5; have e4 := BX.c4; have e0 := BX.c0; have BX := Aside0.mk BX; clear hb2))
  go_ret
  exact ⟨rfl, (Aside0.out ‹Aside0 (Boxed g w _)›).below⟩
set_option maxHeartbeats 4000000 in
set_option maxRecDepth 100000 in
/-- Classes not as they come. -/
theorem valid3b (g : G) (w : World) (hg : g.In w) (h0 : g.la.length ≤ 16) (h1 : g.ls.length ≤ 64) (h2 : g.lo.length ≤ 64) (b0 : onceB g.la = true) (b1 : onceB g.ls = true) (b2 : onceB g.lo = true) (hof : g.of.length = g.ls.length) (hon : g.on.length = g.lo.length) (tn tm : Int) (tok tis : Bool) (t3 : told (great 0 g.of) = (tn, tok)) (t4 : told (great 0 g.on) = (tm, tis)) (ha : tok = true) (hb : tis = false) :
    Calls Try.prog 12 #[g.val] w fun e w' => e = .returned (.bool false) ∧ Below w.heap.size w w' := by
  unfold G.val
  have HG := Aside0.mk hg
  have B0 := Aside0.mk b0
  have B1 := Aside0.mk b1
  have B2 := Aside0.mk b2
  subst ha
  subst hb
  have HO3 := Aside0.mk hof
  have HO4 := Aside0.mk hon
  have T3 := Aside0.mk t3
  have T4 := Aside0.mk t4
  clear hg b0 b1 b2 t3 t4
  go_enter Try.func12, Try.ntmps12
  go_wp2_with (first | (go_at_call 33; (with_reducible refine (once_go g.A0 g.c0 g.la _ true B0.out ?s1 HG.out.l0).mono ?_); (case s1 => repeat (first | exact HG.out.h0 | (with_reducible refine Kd.C_alloc ?_ _) | (with_reducible refine Kd.C_drewN ?_ _) | (with_reducible refine Kd.C_drew ?_))); rintro e w' ⟨rfl, ⟨nd, rfl⟩⟩) | (go_at_call 33; (with_reducible refine (once_go g.A1 g.c1 g.ls _ true B1.out ?s1 HG.out.l1).mono ?_); (case s1 => repeat (first | exact HG.out.h1 | (with_reducible refine Kd.C_alloc ?_ _) | (with_reducible refine Kd.C_drewN ?_ _) | (with_reducible refine Kd.C_drew ?_))); rintro e w' ⟨rfl, ⟨nd, rfl⟩⟩) | (go_at_call 33; (with_reducible refine (once_go g.A2 g.c2 g.lo _ true B2.out ?s1 HG.out.l2).mono ?_); (case s1 => repeat (first | exact HG.out.h2 | (with_reducible refine Kd.C_alloc ?_ _) | (with_reducible refine Kd.C_drewN ?_ _) | (with_reducible refine Kd.C_drew ?_))); rintro e w' ⟨rfl, ⟨nd, rfl⟩⟩) | (go_at_call 34; (with_reducible refine (counted_to g.A3 g.c3 g.of _ tn true _ HO3.out T3.out ?s1 HG.out.l3).mono ?_); (case s1 => first | exact (HG.out.below (Boxed.start g w _).below).h3 | exact (HG.out.below (Aside0.out ‹Aside0 (Boxed g w _)›).below).h3); rintro e w2 ⟨rfl, hb2⟩; have BX := Boxed.go (Boxed.start g w _) hb2; have e5 := BX.c5; have e4 := BX.c4; have e0 := BX.c0; have BX := Aside0.mk BX; clear hb2) | (go_at_call 34; (with_reducible refine (counted_to g.A4 g.c4 g.on _ tm false _ HO4.out T4.out ?s1 HG.out.l4).mono ?_); (case s1 => first | exact (HG.out.below (Boxed.start g w _).below).h4 | exact (HG.out.below (Aside0.out ‹Aside0 (Boxed g w _)›).below).h4); rintro e w2 ⟨rfl, hb2⟩; have BX := Boxed.go (Aside0.out ‹Aside0 (Boxed g w _)›) hb2; have e5 := BX.c5; have e4 := BX.c4; have e0 := BX.c0; have BX := Aside0.mk BX; clear hb2))
  go_ret
  exact ⟨rfl, (Aside0.out ‹Aside0 (Boxed g w _)›).below⟩
set_option maxHeartbeats 4000000 in
set_option maxRecDepth 100000 in
/-- Too few or too many rows. -/
theorem valid3c (g : G) (w : World) (hg : g.In w) (h0 : g.la.length ≤ 16) (h1 : g.ls.length ≤ 64) (h2 : g.lo.length ≤ 64) (b0 : onceB g.la = true) (b1 : onceB g.ls = true) (b2 : onceB g.lo = true) (hof : g.of.length = g.ls.length) (hon : g.on.length = g.lo.length) (tn tm : Int) (tok tis : Bool) (t3 : told (great 0 g.of) = (tn, tok)) (t4 : told (great 0 g.on) = (tm, tis)) (ha : tok = true) (hb : tis = true) (hn : ¬ (g.ms.length : Int) = tn) :
    Calls Try.prog 12 #[g.val] w fun e w' => e = .returned (.bool false) ∧ Below w.heap.size w w' := by
  unfold G.val
  have HG := Aside0.mk hg
  have B0 := Aside0.mk b0
  have B1 := Aside0.mk b1
  have B2 := Aside0.mk b2
  subst ha
  subst hb
  have HO3 := Aside0.mk hof
  have HO4 := Aside0.mk hon
  have T3 := Aside0.mk t3
  have T4 := Aside0.mk t4
  clear hg b0 b1 b2 t3 t4
  go_enter Try.func12, Try.ntmps12
  go_wp2_with (first | (go_at_call 33; (with_reducible refine (once_go g.A0 g.c0 g.la _ true B0.out ?s1 HG.out.l0).mono ?_); (case s1 => repeat (first | exact HG.out.h0 | (with_reducible refine Kd.C_alloc ?_ _) | (with_reducible refine Kd.C_drewN ?_ _) | (with_reducible refine Kd.C_drew ?_))); rintro e w' ⟨rfl, ⟨nd, rfl⟩⟩) | (go_at_call 33; (with_reducible refine (once_go g.A1 g.c1 g.ls _ true B1.out ?s1 HG.out.l1).mono ?_); (case s1 => repeat (first | exact HG.out.h1 | (with_reducible refine Kd.C_alloc ?_ _) | (with_reducible refine Kd.C_drewN ?_ _) | (with_reducible refine Kd.C_drew ?_))); rintro e w' ⟨rfl, ⟨nd, rfl⟩⟩) | (go_at_call 33; (with_reducible refine (once_go g.A2 g.c2 g.lo _ true B2.out ?s1 HG.out.l2).mono ?_); (case s1 => repeat (first | exact HG.out.h2 | (with_reducible refine Kd.C_alloc ?_ _) | (with_reducible refine Kd.C_drewN ?_ _) | (with_reducible refine Kd.C_drew ?_))); rintro e w' ⟨rfl, ⟨nd, rfl⟩⟩) | (go_at_call 34; (with_reducible refine (counted_to g.A3 g.c3 g.of _ tn true _ HO3.out T3.out ?s1 HG.out.l3).mono ?_); (case s1 => first | exact (HG.out.below (Boxed.start g w _).below).h3 | exact (HG.out.below (Aside0.out ‹Aside0 (Boxed g w _)›).below).h3); rintro e w2 ⟨rfl, hb2⟩; have BX := Boxed.go (Boxed.start g w _) hb2; have e5 := BX.c5; have e4 := BX.c4; have e0 := BX.c0; have BX := Aside0.mk BX; clear hb2) | (go_at_call 34; (with_reducible refine (counted_to g.A4 g.c4 g.on _ tm true _ HO4.out T4.out ?s1 HG.out.l4).mono ?_); (case s1 => first | exact (HG.out.below (Boxed.start g w _).below).h4 | exact (HG.out.below (Aside0.out ‹Aside0 (Boxed g w _)›).below).h4); rintro e w2 ⟨rfl, hb2⟩; have BX := Boxed.go (Aside0.out ‹Aside0 (Boxed g w _)›) hb2; have e5 := BX.c5; have e4 := BX.c4; have e0 := BX.c0; have BX := Aside0.mk BX; clear hb2))
  go_ret
  exact ⟨rfl, (Aside0.out ‹Aside0 (Boxed g w _)›).below⟩
end Go.Proofs.Ythaiodklfoegiaa.GValid
