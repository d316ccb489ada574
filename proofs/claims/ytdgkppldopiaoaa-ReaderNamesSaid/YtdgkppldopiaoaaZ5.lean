/- Of this session's texts, what the row uses: VPure2, GValid, VPure3, GValidMain, CCompile, CSays, ROne, PHx0, PHx1, PHx2, RPage, RPput. -/
import Derived.Test.YtdgkppldopiaoaaZ3
import Derived.Test.YtdgkppldopiaoaaZ2
import Derived.Test.YtdgkppldopiaoaaZ4
import Derived.Deep.DeepCutAuto
import Derived.Test.YtdgkppldopiaoaaProg
import Derived.Below
import Derived.Deep.Draws
import Derived.Deep.AppendLies
import Derived.Maps.AppendAt
import Derived.OwnWalk
import Derived.Laws.BytesArg
import Derived.Laws.MakeOwn
import Derived.Laws.OwnMore
import Derived.Deep.OwnRows
import Derived.Tactics
import Derived.Lib.ConvBytes
import Derived.Laws.Slices
import Derived.WalkKit
import Derived.KernelRfl
import Derived.RowKit3
import Derived.Deep.LoopGhost
import Derived.Deep.QuietTactic
import Derived.BigQuiet
import Derived.WideLaws
import Derived.Deep.CutBlock
import Derived.Deep.RegionHeld3
import Derived.Laws.Rows
import Derived.Lib.AppendStr
import Derived.ArgAppend
import Derived.Laws.IdiomCopy
import Derived.OrdersHeld
import Derived.Laws.BitsLemmas
import Derived.RowKit
import Derived.Test.YtdgkppldopiaoaaZ1
set_option linter.unusedSimpArgs false
set_option linter.unusedVariables false
set_option maxHeartbeats 8000000
set_option maxRecDepth 100000
/- The document's Valid in plain words. -/
namespace Go.Proofs.Ytdgkppldopiaoaa.VPure
open Go.RowKit PG YtdgkppldopiaoaaW.PrintWords YtdgkppldopiaoaaW.PrintMore
open Classical
def column (ms : List (List Int)) (j : Nat) : List Int := ms.map (·.getD j 0)
def cols (ms : List (List Int)) (m : Nat) : List (List Int) := (List.range m).map (column ms)
def shapeP (b n m : Nat) (ms : List (List Int)) : Prop := ms.length = n ∧ ∀ row ∈ ms, row.length = m ∧ ∀ x ∈ row, x < 2 ^ b
def validP (la ls lo : List ByteArray) (of on : List Int) (ms : List (List Int)) : Prop :=
 la.length ≤ 16 ∧ ls.length ≤ 64 ∧ lo.length ≤ 64 ∧ of.length = ls.length ∧ on.length = lo.length ∧ (nm la).Nodup ∧ (nm ls).Nodup ∧ (nm lo).Nodup ∧
  ∃ n m : Nat, great 0 of = some (n : Int) ∧ great 0 on = some (m : Int) ∧ shapeP la.length n m ms ∧ ms.Nodup ∧ (cols ms m).Nodup
noncomputable def validB (la ls lo : List ByteArray) (of on : List Int) (ms : List (List Int)) : Bool := decide (validP la ls lo of on ms)
section
variable (la ls lo : List ByteArray) (of on : List Int) (ms : List (List Int))
theorem great_nat {l : List Int} {x : Int} (h : great 0 l = some x) : ∃ n : Nat, x = n ∧ n ≤ l.length := by
 have := great_le l 0 x h (by omega)
 exact ⟨x.toNat, by omega, by omega⟩
end
end Go.Proofs.Ytdgkppldopiaoaa.VPure
/- graph.Valid, walked. -/
namespace Go.Proofs.Ytdgkppldopiaoaa.GValid
open Go.RowKit YtdgkppldopiaoaaW.PrintWords YtdgkppldopiaoaaW.PrintLast YtdgkppldopiaoaaW.PrintMore BMap BRow GDiffer VPure Go.Maps
theorem once_any (A : Option Addr) (c : Nat) (l : List ByteArray) (w : World) (hC : Kd.C Kd.string w A l.length l) (hc : l.length ≤ c) :
  Calls Try.prog 40 #[.slice A l.length c] w fun e w' => e = .returned (.bool (onceB l)) ∧ Drawn0 w w' :=
 let ⟨k, hk⟩ := (once_f l hC.2.1).rounds
 PG.graph_once.calls k A c l _ w hC hc hk
theorem counted_any (A : Option Addr) (c : Nat) (l : List Int) (w : World) (hC : Kd.C (Kd.int .i64) w A l.length l) (hc : l.length ≤ c) :
  Calls Try.prog 41 #[.slice A l.length c] w fun e w' => e = .returned (.tuple #[.int .i64 (told (great 0 l)).1, .bool (told (great 0 l)).2]) ∧ Below w.heap.size w w' :=
 let ⟨k, hk⟩ := (counted_f l hC.2.1).rounds
 PG.graph_counted.calls k A c l _ _ w hC hc hk
structure G where
 A0 : Option Addr
 c0 : Nat
 la : List ByteArray
 A1 : Option Addr
 c1 : Nat
 ls : List ByteArray
 A2 : Option Addr
 c2 : Nat
 lo : List ByteArray
 A3 : Option Addr
 c3 : Nat
 of : List Int
 A4 : Option Addr
 c4 : Nat
 on : List Int
 A5 : Option Addr
 c5 : Nat
 ms : List (List Int)
def G.val (g : G) : Value := .agg #[.slice g.A0 g.la.length g.c0, .slice g.A1 g.ls.length g.c1, .slice g.A2 g.lo.length g.c2, .slice g.A3 g.of.length g.c3, .slice g.A4 g.on.length g.c4, .slice g.A5 g.ms.length g.c5]
structure G.In (g : G) (w : World) : Prop where
 h0 : Kd.C Kd.string w g.A0 g.la.length g.la
 h1 : Kd.C Kd.string w g.A1 g.ls.length g.ls
 h2 : Kd.C Kd.string w g.A2 g.lo.length g.lo
 h3 : Kd.C (Kd.int .i64) w g.A3 g.of.length g.of
 h4 : Kd.C (Kd.int .i64) w g.A4 g.on.length g.on
 h5 : Kd.C (Kd.slice 104 (Kd.int .u16)) w g.A5 g.ms.length g.ms
 l0 : g.la.length ≤ g.c0
 l1 : g.ls.length ≤ g.c1
 l2 : g.lo.length ≤ g.c2
 l3 : g.of.length ≤ g.c3
 l4 : g.on.length ≤ g.c4
 l5 : g.ms.length ≤ g.c5
 u16 : ∀ row ∈ g.ms, ∀ x ∈ row, (Lit.int .u16 x).wf = true
theorem G.In.below {g : G} {w w1 : World} (h : g.In w) (hb : Below w.heap.size w w1) : g.In w1 :=
 ⟨Kd.C_below h.h0 hb, Kd.C_below h.h1 hb, Kd.C_below h.h2 hb, Kd.C_below h.h3 hb, Kd.C_below h.h4 hb, Kd.C_below h.h5 hb, h.l0, h.l1, h.l2, h.l3, h.l4, h.l5, h.u16⟩
theorem G.In.alloc {g : G} {w : World} (h : g.In w) (o : Obj) : g.In (w.alloc o) := h.below (below_alloc (Below.refl _ _) o)
theorem G.In.drewN {g : G} {w : World} (h : g.In w) (n : Nat) : g.In (w.drewN n) := h.below (pw_below_drewN (Below.refl _ _) n)
theorem G.In.drew {g : G} {w : World} (h : g.In w) : g.In w.drew := h.below (below_drew (Below.refl _ _))
theorem valid1 (g : G) (w : World) (hc : ¬ (g.la.length ≤ 16 ∧ g.ls.length ≤ 64 ∧ g.lo.length ≤ 64)) :
  Calls Try.prog 22 #[g.val] w fun e w' => e = .returned (.bool false) ∧ Below w.heap.size w w' := by
 unfold G.val
 by_cases c0 : g.la.length ≤ 16
 ·by_cases c1 : g.ls.length ≤ 64
  ·have c2 : ¬ g.lo.length ≤ 64 := fun c2 => hc ⟨c0, c1, c2⟩
   clear hc
   go_enter Try.func22, Try.ntmps22
   go_wp2_with fail
   go_ret
   exact ⟨rfl, (Below.refl _ _).alloc (Nat.le_refl _) _⟩
  ·clear hc
   go_enter Try.func22, Try.ntmps22
   go_wp2_with fail
   go_ret
   exact ⟨rfl, (Below.refl _ _).alloc (Nat.le_refl _) _⟩
 ·clear hc
  go_enter Try.func22, Try.ntmps22
  go_wp2_with fail
  go_ret
  exact ⟨rfl, (Below.refl _ _).alloc (Nat.le_refl _) _⟩
theorem once_go (A : Option Addr) (c : Nat) (l : List ByteArray) (w : World) (r : Bool) (hr : onceB l = r) (hC : Kd.C Kd.string w A l.length l) (hc : l.length ≤ c) :
  Calls Try.prog 40 #[.slice A l.length c] w fun e w' => e = .returned (.bool r) ∧ Drawn0 w w' := by
 subst hr; exact once_any A c l w hC hc
theorem counted_go (A : Option Addr) (c : Nat) (l : List Int) (w : World) (n : Int) (r : Bool) (hr : told (great 0 l) = (n, r)) (hC : Kd.C (Kd.int .i64) w A l.length l) (hc : l.length ≤ c) :
  Calls Try.prog 41 #[.slice A l.length c] w fun e w' => e = .returned (.tuple #[.int .i64 n, .bool r]) ∧ Below w.heap.size w w' := by
 have := counted_any A c l w hC hc
 rw [hr] at this
 exact this
theorem valid2a (g : G) (w : World) (hg : g.In w) (h0 : g.la.length ≤ 16) (h1 : g.ls.length ≤ 64) (h2 : g.lo.length ≤ 64) (b0 : onceB g.la = false) :
  Calls Try.prog 22 #[g.val] w fun e w' => e = .returned (.bool false) ∧ Below w.heap.size w w' := by
 unfold G.val
 have HG := jA hg
 have B0 := jA b0
 clear hg b0
 go_enter Try.func22, Try.ntmps22
 go_wp2_with (first | (go_at_call 40; (with_reducible refine (once_go g.A0 g.c0 g.la _ false B0.out ?s1 HG.out.l0).mono ?_); (case s1 => repeat (first | exact HG.out.h0 | (with_reducible refine Kd.C_alloc ?_ _) | (with_reducible refine Kd.C_drewN ?_ _) | (with_reducible refine Kd.C_drew ?_))); rintro e w' ⟨rfl, ⟨nd, rfl⟩⟩))
 go_ret
 exact ⟨rfl, pw_below_drewN ((Below.refl _ _).alloc (Nat.le_refl _) _) _⟩
theorem valid2b (g : G) (w : World) (hg : g.In w) (h0 : g.la.length ≤ 16) (h1 : g.ls.length ≤ 64) (h2 : g.lo.length ≤ 64) (b0 : onceB g.la = true) (b1 : onceB g.ls = false) :
  Calls Try.prog 22 #[g.val] w fun e w' => e = .returned (.bool false) ∧ Below w.heap.size w w' := by
 unfold G.val
 have HG := jA hg
 have B0 := jA b0
 have B1 := jA b1
 clear hg b0 b1
 go_enter Try.func22, Try.ntmps22
 go_wp2_with (first | (go_at_call 40; (with_reducible refine (once_go g.A0 g.c0 g.la _ true B0.out ?s1 HG.out.l0).mono ?_); (case s1 => repeat (first | exact HG.out.h0 | (with_reducible refine Kd.C_alloc ?_ _) | (with_reducible refine Kd.C_drewN ?_ _) | (with_reducible refine Kd.C_drew ?_))); rintro e w' ⟨rfl, ⟨nd, rfl⟩⟩) | (go_at_call 40; (with_reducible refine (once_go g.A1 g.c1 g.ls _ false B1.out ?s1 HG.out.l1).mono ?_); (case s1 => repeat (first | exact HG.out.h1 | (with_reducible refine Kd.C_alloc ?_ _) | (with_reducible refine Kd.C_drewN ?_ _) | (with_reducible refine Kd.C_drew ?_))); rintro e w' ⟨rfl, ⟨nd, rfl⟩⟩))
 go_ret
 exact ⟨rfl, pw_below_drewN ((Below.refl _ _).alloc (Nat.le_refl _) _) _⟩
theorem valid2c (g : G) (w : World) (hg : g.In w) (h0 : g.la.length ≤ 16) (h1 : g.ls.length ≤ 64) (h2 : g.lo.length ≤ 64) (b0 : onceB g.la = true) (b1 : onceB g.ls = true) (b2 : onceB g.lo = false) :
  Calls Try.prog 22 #[g.val] w fun e w' => e = .returned (.bool false) ∧ Below w.heap.size w w' := by
 unfold G.val
 have HG := jA hg
 have B0 := jA b0
 have B1 := jA b1
 have B2 := jA b2
 clear hg b0 b1 b2
 go_enter Try.func22, Try.ntmps22
 go_wp2_with (first | (go_at_call 40; (with_reducible refine (once_go g.A0 g.c0 g.la _ true B0.out ?s1 HG.out.l0).mono ?_); (case s1 => repeat (first | exact HG.out.h0 | (with_reducible refine Kd.C_alloc ?_ _) | (with_reducible refine Kd.C_drewN ?_ _) | (with_reducible refine Kd.C_drew ?_))); rintro e w' ⟨rfl, ⟨nd, rfl⟩⟩) | (go_at_call 40; (with_reducible refine (once_go g.A1 g.c1 g.ls _ true B1.out ?s1 HG.out.l1).mono ?_); (case s1 => repeat (first | exact HG.out.h1 | (with_reducible refine Kd.C_alloc ?_ _) | (with_reducible refine Kd.C_drewN ?_ _) | (with_reducible refine Kd.C_drew ?_))); rintro e w' ⟨rfl, ⟨nd, rfl⟩⟩) | (go_at_call 40; (with_reducible refine (once_go g.A2 g.c2 g.lo _ false B2.out ?s1 HG.out.l2).mono ?_); (case s1 => repeat (first | exact HG.out.h2 | (with_reducible refine Kd.C_alloc ?_ _) | (with_reducible refine Kd.C_drewN ?_ _) | (with_reducible refine Kd.C_drew ?_))); rintro e w' ⟨rfl, ⟨nd, rfl⟩⟩))
 go_ret
 exact ⟨rfl, pw_below_drewN ((Below.refl _ _).alloc (Nat.le_refl _) _) _⟩
theorem valid2d (g : G) (w : World) (hg : g.In w) (h0 : g.la.length ≤ 16) (h1 : g.ls.length ≤ 64) (h2 : g.lo.length ≤ 64) (b0 : onceB g.la = true) (b1 : onceB g.ls = true) (b2 : onceB g.lo = true) (hof : ¬ g.of.length = g.ls.length) :
  Calls Try.prog 22 #[g.val] w fun e w' => e = .returned (.bool false) ∧ Below w.heap.size w w' := by
 unfold G.val
 have HG := jA hg
 have B0 := jA b0
 have B1 := jA b1
 have B2 := jA b2
 clear hg b0 b1 b2
 go_enter Try.func22, Try.ntmps22
 go_wp2_with (first | (go_at_call 40; (with_reducible refine (once_go g.A0 g.c0 g.la _ true B0.out ?s1 HG.out.l0).mono ?_); (case s1 => repeat (first | exact HG.out.h0 | (with_reducible refine Kd.C_alloc ?_ _) | (with_reducible refine Kd.C_drewN ?_ _) | (with_reducible refine Kd.C_drew ?_))); rintro e w' ⟨rfl, ⟨nd, rfl⟩⟩) | (go_at_call 40; (with_reducible refine (once_go g.A1 g.c1 g.ls _ true B1.out ?s1 HG.out.l1).mono ?_); (case s1 => repeat (first | exact HG.out.h1 | (with_reducible refine Kd.C_alloc ?_ _) | (with_reducible refine Kd.C_drewN ?_ _) | (with_reducible refine Kd.C_drew ?_))); rintro e w' ⟨rfl, ⟨nd, rfl⟩⟩) | (go_at_call 40; (with_reducible refine (once_go g.A2 g.c2 g.lo _ true B2.out ?s1 HG.out.l2).mono ?_); (case s1 => repeat (first | exact HG.out.h2 | (with_reducible refine Kd.C_alloc ?_ _) | (with_reducible refine Kd.C_drewN ?_ _) | (with_reducible refine Kd.C_drew ?_))); rintro e w' ⟨rfl, ⟨nd, rfl⟩⟩))
 go_ret
 exact ⟨rfl, pw_below_drewN ((Below.refl _ _).alloc (Nat.le_refl _) _) _⟩
theorem valid2e (g : G) (w : World) (hg : g.In w) (h0 : g.la.length ≤ 16) (h1 : g.ls.length ≤ 64) (h2 : g.lo.length ≤ 64) (b0 : onceB g.la = true) (b1 : onceB g.ls = true) (b2 : onceB g.lo = true) (hof : g.of.length = g.ls.length) (hon : ¬ g.on.length = g.lo.length) :
  Calls Try.prog 22 #[g.val] w fun e w' => e = .returned (.bool false) ∧ Below w.heap.size w w' := by
 unfold G.val
 have HG := jA hg
 have B0 := jA b0
 have B1 := jA b1
 have B2 := jA b2
 clear hg b0 b1 b2
 go_enter Try.func22, Try.ntmps22
 go_wp2_with (first | (go_at_call 40; (with_reducible refine (once_go g.A0 g.c0 g.la _ true B0.out ?s1 HG.out.l0).mono ?_); (case s1 => repeat (first | exact HG.out.h0 | (with_reducible refine Kd.C_alloc ?_ _) | (with_reducible refine Kd.C_drewN ?_ _) | (with_reducible refine Kd.C_drew ?_))); rintro e w' ⟨rfl, ⟨nd, rfl⟩⟩) | (go_at_call 40; (with_reducible refine (once_go g.A1 g.c1 g.ls _ true B1.out ?s1 HG.out.l1).mono ?_); (case s1 => repeat (first | exact HG.out.h1 | (with_reducible refine Kd.C_alloc ?_ _) | (with_reducible refine Kd.C_drewN ?_ _) | (with_reducible refine Kd.C_drew ?_))); rintro e w' ⟨rfl, ⟨nd, rfl⟩⟩) | (go_at_call 40; (with_reducible refine (once_go g.A2 g.c2 g.lo _ true B2.out ?s1 HG.out.l2).mono ?_); (case s1 => repeat (first | exact HG.out.h2 | (with_reducible refine Kd.C_alloc ?_ _) | (with_reducible refine Kd.C_drewN ?_ _) | (with_reducible refine Kd.C_drew ?_))); rintro e w' ⟨rfl, ⟨nd, rfl⟩⟩))
 go_ret
 exact ⟨rfl, pw_below_drewN ((Below.refl _ _).alloc (Nat.le_refl _) _) _⟩
def G.cells (g : G) : Array Value := #[.slice g.A0 g.la.length g.c0, .slice g.A1 g.ls.length g.c1, .slice g.A2 g.lo.length g.c2, .slice g.A3 g.ls.length g.c3, .slice g.A4 g.lo.length g.c4, .slice g.A5 g.ms.length g.c5]
theorem counted_to (A : Option Addr) (c : Nat) (l : List Int) (w : World) (n : Int) (r : Bool) (q : Nat) (hq : l.length = q) (hr : told (great 0 l) = (n, r)) (hC : Kd.C (Kd.int .i64) w A l.length l) (hc : l.length ≤ c) :
  Calls Try.prog 41 #[.slice A q c] w fun e w' => e = .returned (.tuple #[.int .i64 n, .bool r]) ∧ Below w.heap.size w w' := by
 subst hq; exact counted_go A c l w n r hr hC hc
structure Boxed (g : G) (w w1 : World) : Prop where
 below : Below w.heap.size w w1
 box : w1.heap[w.heap.size]? = some (.cells g.cells 59 (0, 0))
theorem Boxed.start (g : G) (w : World) (n : Nat) : Boxed g w ((w.alloc (.cells g.cells 59)).drewN n) := ⟨pw_below_drewN ((Below.refl _ _).alloc (Nat.le_refl _) _) _, by simp only [World.heap_drewN]; exact heap_alloc_new w _⟩
theorem Boxed.go {g : G} {w w1 w2 : World} (h : Boxed g w w1) (hb : Below w1.heap.size w1 w2) : Boxed g w w2 := by
 have hlt := (Array.getElem?_eq_some_iff.1 h.box).1
 exact ⟨h.below.trans (hb.mono (Nat.le_of_lt hlt)), by rw [hb.block _ hlt]; exact h.box⟩
theorem Boxed.cell {g : G} {w w1 : World} (h : Boxed g w w1) (j : Nat) : w1.cell? ⟨w.heap.size, j, none⟩ = g.cells[j]? := by
 rw [cell_of_row _ _ _ _ _ _ h.box]
theorem Boxed.c0 {g : G} {w w1 : World} (h : Boxed g w w1) : w1.cell? ⟨w.heap.size, 0, none⟩ = some (.slice g.A0 g.la.length g.c0) := h.cell 0
theorem Boxed.c1 {g : G} {w w1 : World} (h : Boxed g w w1) : w1.cell? ⟨w.heap.size, 1, none⟩ = some (.slice g.A1 g.ls.length g.c1) := h.cell 1
theorem Boxed.c2 {g : G} {w w1 : World} (h : Boxed g w w1) : w1.cell? ⟨w.heap.size, 2, none⟩ = some (.slice g.A2 g.lo.length g.c2) := h.cell 2
theorem Boxed.c3 {g : G} {w w1 : World} (h : Boxed g w w1) : w1.cell? ⟨w.heap.size, 3, none⟩ = some (.slice g.A3 g.ls.length g.c3) := h.cell 3
theorem Boxed.c4 {g : G} {w w1 : World} (h : Boxed g w w1) : w1.cell? ⟨w.heap.size, 4, none⟩ = some (.slice g.A4 g.lo.length g.c4) := h.cell 4
theorem Boxed.c5 {g : G} {w w1 : World} (h : Boxed g w w1) : w1.cell? ⟨w.heap.size, 5, none⟩ = some (.slice g.A5 g.ms.length g.c5) := h.cell 5
theorem valid3a (g : G) (w : World) (hg : g.In w) (h0 : g.la.length ≤ 16) (h1 : g.ls.length ≤ 64) (h2 : g.lo.length ≤ 64) (b0 : onceB g.la = true) (b1 : onceB g.ls = true) (b2 : onceB g.lo = true) (hof : g.of.length = g.ls.length) (hon : g.on.length = g.lo.length) (tn tm : Int) (tok tis : Bool) (t3 : told (great 0 g.of) = (tn, tok)) (t4 : told (great 0 g.on) = (tm, tis)) (hb : tok = false) :
  Calls Try.prog 22 #[g.val] w fun e w' => e = .returned (.bool false) ∧ Below w.heap.size w w' := by
 unfold G.val
 have HG := jA hg
 have B0 := jA b0
 have B1 := jA b1
 have B2 := jA b2
 subst hb
 have HO3 := jA hof
 have HO4 := jA hon
 have T3 := jA t3
 have T4 := jA t4
 clear hg b0 b1 b2 t3 t4
 go_enter Try.func22, Try.ntmps22
 go_wp2_with (first | (go_at_call 40; (with_reducible refine (once_go g.A0 g.c0 g.la _ true B0.out ?s1 HG.out.l0).mono ?_); (case s1 => repeat (first | exact HG.out.h0 | (with_reducible refine Kd.C_alloc ?_ _) | (with_reducible refine Kd.C_drewN ?_ _) | (with_reducible refine Kd.C_drew ?_))); rintro e w' ⟨rfl, ⟨nd, rfl⟩⟩) | (go_at_call 40; (with_reducible refine (once_go g.A1 g.c1 g.ls _ true B1.out ?s1 HG.out.l1).mono ?_); (case s1 => repeat (first | exact HG.out.h1 | (with_reducible refine Kd.C_alloc ?_ _) | (with_reducible refine Kd.C_drewN ?_ _) | (with_reducible refine Kd.C_drew ?_))); rintro e w' ⟨rfl, ⟨nd, rfl⟩⟩) | (go_at_call 40; (with_reducible refine (once_go g.A2 g.c2 g.lo _ true B2.out ?s1 HG.out.l2).mono ?_); (case s1 => repeat (first | exact HG.out.h2 | (with_reducible refine Kd.C_alloc ?_ _) | (with_reducible refine Kd.C_drewN ?_ _) | (with_reducible refine Kd.C_drew ?_))); rintro e w' ⟨rfl, ⟨nd, rfl⟩⟩) | (go_at_call 41; (with_reducible refine (counted_to g.A3 g.c3 g.of _ tn false _ HO3.out T3.out ?s1 HG.out.l3).mono ?_); (case s1 => first | exact (HG.out.below (Boxed.start g w _).below).h3 | exact (HG.out.below (Aside0.out ‹Aside0 (Boxed g w _)›).below).h3); rintro e w2 ⟨rfl, hb2⟩; have BX := Boxed.go (Boxed.start g w _) hb2; have e5 := BX.c5; have e4 := BX.c4; have e0 := BX.c0; have BX := jA BX; clear hb2) | (go_at_call 41; (with_reducible refine (counted_to g.A4 g.c4 g.on _ tm tis _ HO4.out T4.out ?s1 HG.out.l4).mono ?_); (case s1 => first | exact (HG.out.below (Boxed.start g w _).below).h4 | exact (HG.out.below (Aside0.out ‹Aside0 (Boxed g w _)›).below).h4); rintro e w2 ⟨rfl, hb2⟩; have BX := Boxed.go (Aside0.out ‹Aside0 (Boxed g w _)›) hb2; have e5 := BX.c5; have e4 := BX.c4; have e0 := BX.c0; have BX := jA BX; clear hb2))
 go_ret
 exact ⟨rfl, (Aside0.out ‹Aside0 (Boxed g w _)›).below⟩
theorem valid3b (g : G) (w : World) (hg : g.In w) (h0 : g.la.length ≤ 16) (h1 : g.ls.length ≤ 64) (h2 : g.lo.length ≤ 64) (b0 : onceB g.la = true) (b1 : onceB g.ls = true) (b2 : onceB g.lo = true) (hof : g.of.length = g.ls.length) (hon : g.on.length = g.lo.length) (tn tm : Int) (tok tis : Bool) (t3 : told (great 0 g.of) = (tn, tok)) (t4 : told (great 0 g.on) = (tm, tis)) (ha : tok = true) (hb : tis = false) :
  Calls Try.prog 22 #[g.val] w fun e w' => e = .returned (.bool false) ∧ Below w.heap.size w w' := by
 unfold G.val
 have HG := jA hg
 have B0 := jA b0
 have B1 := jA b1
 have B2 := jA b2
 subst ha
 subst hb
 have HO3 := jA hof
 have HO4 := jA hon
 have T3 := jA t3
 have T4 := jA t4
 clear hg b0 b1 b2 t3 t4
 go_enter Try.func22, Try.ntmps22
 go_wp2_with (first | (go_at_call 40; (with_reducible refine (once_go g.A0 g.c0 g.la _ true B0.out ?s1 HG.out.l0).mono ?_); (case s1 => repeat (first | exact HG.out.h0 | (with_reducible refine Kd.C_alloc ?_ _) | (with_reducible refine Kd.C_drewN ?_ _) | (with_reducible refine Kd.C_drew ?_))); rintro e w' ⟨rfl, ⟨nd, rfl⟩⟩) | (go_at_call 40; (with_reducible refine (once_go g.A1 g.c1 g.ls _ true B1.out ?s1 HG.out.l1).mono ?_); (case s1 => repeat (first | exact HG.out.h1 | (with_reducible refine Kd.C_alloc ?_ _) | (with_reducible refine Kd.C_drewN ?_ _) | (with_reducible refine Kd.C_drew ?_))); rintro e w' ⟨rfl, ⟨nd, rfl⟩⟩) | (go_at_call 40; (with_reducible refine (once_go g.A2 g.c2 g.lo _ true B2.out ?s1 HG.out.l2).mono ?_); (case s1 => repeat (first | exact HG.out.h2 | (with_reducible refine Kd.C_alloc ?_ _) | (with_reducible refine Kd.C_drewN ?_ _) | (with_reducible refine Kd.C_drew ?_))); rintro e w' ⟨rfl, ⟨nd, rfl⟩⟩) | (go_at_call 41; (with_reducible refine (counted_to g.A3 g.c3 g.of _ tn true _ HO3.out T3.out ?s1 HG.out.l3).mono ?_); (case s1 => first | exact (HG.out.below (Boxed.start g w _).below).h3 | exact (HG.out.below (Aside0.out ‹Aside0 (Boxed g w _)›).below).h3); rintro e w2 ⟨rfl, hb2⟩; have BX := Boxed.go (Boxed.start g w _) hb2; have e5 := BX.c5; have e4 := BX.c4; have e0 := BX.c0; have BX := jA BX; clear hb2) | (go_at_call 41; (with_reducible refine (counted_to g.A4 g.c4 g.on _ tm false _ HO4.out T4.out ?s1 HG.out.l4).mono ?_); (case s1 => first | exact (HG.out.below (Boxed.start g w _).below).h4 | exact (HG.out.below (Aside0.out ‹Aside0 (Boxed g w _)›).below).h4); rintro e w2 ⟨rfl, hb2⟩; have BX := Boxed.go (Aside0.out ‹Aside0 (Boxed g w _)›) hb2; have e5 := BX.c5; have e4 := BX.c4; have e0 := BX.c0; have BX := jA BX; clear hb2))
 go_ret
 exact ⟨rfl, (Aside0.out ‹Aside0 (Boxed g w _)›).below⟩
theorem valid3c (g : G) (w : World) (hg : g.In w) (h0 : g.la.length ≤ 16) (h1 : g.ls.length ≤ 64) (h2 : g.lo.length ≤ 64) (b0 : onceB g.la = true) (b1 : onceB g.ls = true) (b2 : onceB g.lo = true) (hof : g.of.length = g.ls.length) (hon : g.on.length = g.lo.length) (tn tm : Int) (tok tis : Bool) (t3 : told (great 0 g.of) = (tn, tok)) (t4 : told (great 0 g.on) = (tm, tis)) (ha : tok = true) (hb : tis = true) (hn : ¬ (g.ms.length : Int) = tn) :
  Calls Try.prog 22 #[g.val] w fun e w' => e = .returned (.bool false) ∧ Below w.heap.size w w' := by
 unfold G.val
 have HG := jA hg
 have B0 := jA b0
 have B1 := jA b1
 have B2 := jA b2
 subst ha
 subst hb
 have HO3 := jA hof
 have HO4 := jA hon
 have T3 := jA t3
 have T4 := jA t4
 clear hg b0 b1 b2 t3 t4
 go_enter Try.func22, Try.ntmps22
 go_wp2_with (first | (go_at_call 40; (with_reducible refine (once_go g.A0 g.c0 g.la _ true B0.out ?s1 HG.out.l0).mono ?_); (case s1 => repeat (first | exact HG.out.h0 | (with_reducible refine Kd.C_alloc ?_ _) | (with_reducible refine Kd.C_drewN ?_ _) | (with_reducible refine Kd.C_drew ?_))); rintro e w' ⟨rfl, ⟨nd, rfl⟩⟩) | (go_at_call 40; (with_reducible refine (once_go g.A1 g.c1 g.ls _ true B1.out ?s1 HG.out.l1).mono ?_); (case s1 => repeat (first | exact HG.out.h1 | (with_reducible refine Kd.C_alloc ?_ _) | (with_reducible refine Kd.C_drewN ?_ _) | (with_reducible refine Kd.C_drew ?_))); rintro e w' ⟨rfl, ⟨nd, rfl⟩⟩) | (go_at_call 40; (with_reducible refine (once_go g.A2 g.c2 g.lo _ true B2.out ?s1 HG.out.l2).mono ?_); (case s1 => repeat (first | exact HG.out.h2 | (with_reducible refine Kd.C_alloc ?_ _) | (with_reducible refine Kd.C_drewN ?_ _) | (with_reducible refine Kd.C_drew ?_))); rintro e w' ⟨rfl, ⟨nd, rfl⟩⟩) | (go_at_call 41; (with_reducible refine (counted_to g.A3 g.c3 g.of _ tn true _ HO3.out T3.out ?s1 HG.out.l3).mono ?_); (case s1 => first | exact (HG.out.below (Boxed.start g w _).below).h3 | exact (HG.out.below (Aside0.out ‹Aside0 (Boxed g w _)›).below).h3); rintro e w2 ⟨rfl, hb2⟩; have BX := Boxed.go (Boxed.start g w _) hb2; have e5 := BX.c5; have e4 := BX.c4; have e0 := BX.c0; have BX := jA BX; clear hb2) | (go_at_call 41; (with_reducible refine (counted_to g.A4 g.c4 g.on _ tm true _ HO4.out T4.out ?s1 HG.out.l4).mono ?_); (case s1 => first | exact (HG.out.below (Boxed.start g w _).below).h4 | exact (HG.out.below (Aside0.out ‹Aside0 (Boxed g w _)›).below).h4); rintro e w2 ⟨rfl, hb2⟩; have BX := Boxed.go (Aside0.out ‹Aside0 (Boxed g w _)›) hb2; have e5 := BX.c5; have e4 := BX.c4; have e0 := BX.c0; have BX := jA BX; clear hb2))
 go_ret
 exact ⟨rfl, (Aside0.out ‹Aside0 (Boxed g w _)›).below⟩
end Go.Proofs.Ytdgkppldopiaoaa.GValid
/- Valid's end, in plain words: lines filled up to 64 masks. -/
namespace Go.Proofs.Ytdgkppldopiaoaa.VPure
open Go.RowKit YtdgkppldopiaoaaW.PrintWords GBlk
def mat (ms : List (List Int)) (a b : Nat) : Int := (ms.getD a []).getD b 0
def partM (ms : List (List Int)) (i j a b : Nat) : Int := if a < i ∨ (a = i ∧ b < j) then mat ms a b else 0
theorem part_next (ms : List (List Int)) (i j a b : Nat) : (if a = i ∧ b = j then mat ms i j else partM ms i j a b) = partM ms i (j + 1) a b := by
 unfold partM
 by_cases h : a = i ∧ b = j
 ·obtain ⟨rfl, rfl⟩ := h
  rw [if_pos ⟨rfl, rfl⟩, if_pos (by omega)]
 ·rw [if_neg h]
  by_cases h2 : a < i ∨ (a = i ∧ b < j)
  ·rw [if_pos h2, if_pos (by omega)]
  ·rw [if_neg h2, if_neg (by omega)]
theorem part_row (ms : List (List Int)) (i j a b : Nat) (h : (ms.getD i []).length = j) : partM ms i j a b = partM ms (i + 1) 0 a b := by
 unfold partM
 by_cases h2 : a < i ∨ (a = i ∧ b < j)
 ·rw [if_pos h2, if_pos (by omega)]
 ·rw [if_neg h2]
  by_cases h3 : a < i + 1 ∨ (a = i + 1 ∧ b < 0)
  ·rw [if_pos h3]
   have : a = i := by omega
   subst this
   have hb : (ms.getD a []).length ≤ b := by omega
   unfold mat
   rw [List.getD_eq_getElem?_getD, List.getElem?_eq_none hb]; rfl
  ·rw [if_neg h3]
theorem part_zero (ms : List (List Int)) (a b : Nat) : partM ms 0 0 a b = 0 := by
 unfold partM; rw [if_neg (by omega)]
theorem getD_out {α : Type} (l : List α) (a : Nat) (d : α) (h : l.length ≤ a) : l.getD a d = d := by
 rw [List.getD_eq_getElem?_getD, List.getElem?_eq_none h]; rfl
theorem part_all (ms : List (List Int)) (a b : Nat) : partM ms ms.length 0 a b = mat ms a b := by
 unfold partM
 by_cases h : a < ms.length
 ·rw [if_pos (by omega)]
 ·rw [if_neg (by omega)]
  have e : ms.getD a [] = [] := getD_out _ _ _ (by omega)
  unfold mat
  rw [e]; rfl
theorem getD_of (ms : List (List Int)) (a : Nat) (h : a < ms.length) : ms.getD a [] = ms[a] := by simp [h]
theorem mat_u16 (ms : List (List Int)) (hu : ∀ row ∈ ms, ∀ x ∈ row, (Lit.int .u16 x).wf = true) (a b : Nat) : (Lit.int .u16 (mat ms a b)).wf = true := by
 unfold mat
 by_cases ha : a < ms.length
 ·rw [getD_of ms a ha]
  by_cases hb : b < ms[a].length
  ·have := hu _ (List.getElem_mem ha) _ (List.getElem_mem hb)
   simpa [hb] using this
  ·rw [List.getD_eq_getElem?_getD, List.getElem?_eq_none (by omega)]; rfl
 ·have e : ms.getD a [] = [] := getD_out _ _ _ (by omega)
  rw [e]; rfl
section
variable (la ls lo : List ByteArray) (of on : List Int) (ms : List (List Int)) (m : Nat)
theorem told_some {l : List Int} {x : Int} (h : told (great 0 l) = (x, true)) : great 0 l = some x := by
 unfold told at h
 cases hg : great 0 l with
 | none => rw [hg] at h; simp at h
 | some y => rw [hg] at h; simp at h; rw [h]
open Classical in
theorem valid_shape_false (t4 : told (great 0 on) = ((m : Int), true)) (i : Nat) (hi : i < ms.length) (h : ¬ ((ms.getD i []).length = m ∧ ∀ x ∈ ms.getD i [], x < 2 ^ la.length)) : validB la ls lo of on ms = false := by
 unfold validB
 refine decide_eq_false ?_
 unfold validP
 rintro ⟨-, -, -, -, -, -, -, -, n', m', -, h4, ⟨-, h5⟩, -⟩
 rw [told_some t4] at h4
 have : m = m' := by
  have := Option.some.inj h4
  omega
 subst this
 refine h (h5 _ ?_)
 rw [getD_of ms i hi]
 exact List.getElem_mem hi
theorem fill_inj {n : Nat} {a b : List Int} (ha : a.length = n) (hb : b.length = n) (hn : n ≤ 64) : ((List.range 64).map fun k => a.getD k 0) = ((List.range 64).map fun k => b.getD k 0) ↔ a = b := by
 constructor
 ·intro h
  apply List.ext_getElem (by omega)
  intro k h1 h2
  have := congrArg (fun l => l[k]?) h
  have hk : k < 64 := by omega
  simp only [List.getElem?_map, List.getElem?_range hk, Option.map_some, Option.some.injEq] at this
  simpa [h1, h2] using this
 ·rintro rfl; rfl
theorem nodup_map_iff {α β : Type} (f : α → β) : ∀ (l : List α), (∀ a ∈ l, ∀ b ∈ l, f a = f b ↔ a = b) → ((l.map f).Nodup ↔ l.Nodup)
 | [], _ => by simp
 | x :: r, h => by
  have ih := nodup_map_iff f r (fun a ha b hb => h a (by simp [ha]) b (by simp [hb]))
  simp only [List.map_cons, List.nodup_cons, ih]
  refine and_congr_left fun _ => not_congr ?_
  constructor
  ·intro hm
   obtain ⟨y, hy, e⟩ := List.mem_map.1 hm
   have := (h y (by simp [hy]) x (by simp)).1 e
   rwa [← this]
  ·intro hm; exact List.mem_map_of_mem hm
theorem rows_nodup (hrow : ∀ row ∈ ms, row.length = m) (hm : m ≤ 64) : (linesOf ms.length (mat ms)).Nodup ↔ ms.Nodup := by
 have e : linesOf ms.length (mat ms) = ms.map (fun row => (List.range 64).map fun k => row.getD k 0) := by
  unfold linesOf
  apply List.ext_getElem (by simp)
  intro k h1 h2
  have hk : k < ms.length := by simpa using h1
  simp [mat, hk]
 rw [e]
 exact nodup_map_iff _ _ (fun a ha b hb => fill_inj (hrow a ha) (hrow b hb) hm)
theorem cols_nodup (hn : ms.length ≤ 64) : (linesOf m (fun b a => mat ms a b)).Nodup ↔ (cols ms m).Nodup := by
 have e : linesOf m (fun b a => mat ms a b) = (cols ms m).map (fun row => (List.range 64).map fun k => row.getD k 0) := by
  unfold linesOf cols
  rw [List.map_map]
  apply List.map_congr_left
  intro b _
  simp only [Function.comp_def]
  apply List.map_congr_left
  intro a _
  unfold mat column
  by_cases ha : a < ms.length
  ·simp [ha]
  ·have e1 : ms.getD a [] = [] := getD_out _ _ _ (by omega)
   rw [e1, getD_out (List.map _ _) _ _ (by simp; omega)]; rfl
 rw [e]
 refine nodup_map_iff _ _ (fun a ha b hb => fill_inj (n := ms.length) ?_ ?_ hn)
 ·obtain ⟨j, -, rfl⟩ := List.mem_map.1 ha; simp [column]
 ·obtain ⟨j, -, rfl⟩ := List.mem_map.1 hb; simp [column]
open Classical in
theorem valid_fin (h0 : la.length ≤ 16) (h1 : ls.length ≤ 64) (h2 : lo.length ≤ 64) (b0 : onceB la = true) (b1 : onceB ls = true) (b2 : onceB lo = true) (hof : of.length = ls.length) (hon : on.length = lo.length)
  (t3 : told (great 0 of) = ((ms.length : Int), true)) (t4 : told (great 0 on) = ((m : Int), true)) (hn : ms.length ≤ 64) (hm : m ≤ 64)
  (hs : ∀ a, a < ms.length → (ms.getD a []).length = m ∧ ∀ x ∈ ms.getD a [], x < 2 ^ la.length) :
  (decide (linesOf ms.length (mat ms)).Nodup && decide (linesOf m (fun b a => mat ms a b)).Nodup) = validB la ls lo of on ms := by
 have hs' : ∀ row ∈ ms, row.length = m ∧ ∀ x ∈ row, x < 2 ^ la.length := by
  intro row hr
  obtain ⟨a, ha, rfl⟩ := List.getElem_of_mem hr
  have := hs a ha
  rwa [getD_of ms a ha] at this
 have e1 := rows_nodup ms m (fun row hr => (hs' row hr).1) hm
 have e2 := cols_nodup ms m hn
 unfold validB
 rw [Bool.eq_iff_iff, Bool.and_eq_true, decide_eq_true_iff, decide_eq_true_iff, decide_eq_true_iff, e1, e2]
 unfold validP
 simp only [onceB, decide_eq_true_eq] at b0 b1 b2
 constructor
 ·rintro ⟨n1, n2⟩
  exact ⟨h0, h1, h2, hof, hon, b0, b1, b2, ms.length, m, told_some t3, told_some t4, ⟨rfl, hs'⟩, n1, n2⟩
 ·rintro ⟨-, -, -, -, -, -, -, -, n', m', -, h4, -, n1, n2⟩
  rw [told_some t4] at h4
  have : m = m' := by
   have := Option.some.inj h4
   omega
  subst this
  exact ⟨n1, n2⟩
end
end Go.Proofs.Ytdgkppldopiaoaa.VPure
/- graph.Valid, walked: the main way. -/
namespace Go.Proofs.Ytdgkppldopiaoaa.GValid
open Go.RowKit YtdgkppldopiaoaaW.PrintWords YtdgkppldopiaoaaW.PrintLast YtdgkppldopiaoaaW.PrintMore BMap BRow GDiffer GBlk VPure Go.Maps
structure St (g : G) (w wr : World) (gr gc m i j : Nat) : Prop where
 boxed : Boxed g w wr
 rows : Blk wr gr g.ms.length (partM g.ms i j)
 cols : Blk wr gc m (fun b a => partM g.ms i j a b)
 shape : ∀ a, a < i → (g.ms.getD a []).length = m ∧ ∀ x ∈ g.ms.getD a [], x < 2 ^ g.la.length
 row : ∀ b, b < j → mat g.ms i b < 2 ^ g.la.length
theorem Boxed.set {g : G} {w w1 : World} (h : Boxed g w w1) {b : Nat} (hb : w.heap.size < b) (j : Nat) (v : Value) : Boxed g w (w1.setCell ⟨b, j, none⟩ v) :=
 ⟨below_set h.below (Nat.le_of_lt hb), by rw [Below.heap_setCell _ _ _ _ (by show w.heap.size ≠ b; omega)]; exact h.box⟩
theorem St.next {g : G} {w wr : World} {gr gc m i j : Nat} (h : St g w wr gr gc m i j) (hne : gr ≠ gc) (hgr : w.heap.size < gr) (hgc : w.heap.size < gc) (hi : i < 64) (hj : j < 64) (x : Int) (hx : mat g.ms i j = x) (hlt : x < 2 ^ g.la.length) :
  St g w ((wr.setCell ⟨gr, i * 64 + j, none⟩ (.int .u16 x)).setCell ⟨gc, j * 64 + i, none⟩ (.int .u16 x)).drew gr gc m i (j + 1) where
 boxed := by
  have := (h.boxed.set hgr (i * 64 + j) (.int .u16 x)).set hgc (j * 64 + i) (.int .u16 x)
  exact ⟨this.below.drew, this.box⟩
 rows := by
  have := ((h.rows.set (i := i) hj x).far (a := ⟨gc, j * 64 + i, none⟩) (by show gr ≠ gc; exact hne) (.int .u16 x)).congr (F' := partM g.ms i (j + 1)) (fun a b _ _ => by
   subst hx; exact part_next g.ms i j a b)
  exact this
 cols := by
  have := ((h.cols.far (a := ⟨gr, i * 64 + j, none⟩) (by show gc ≠ gr; exact hne.symm) (.int .u16 x)).set (i := j) hi x).congr (F' := fun b a => partM g.ms i (j + 1) a b) (fun b a _ _ => by
   subst hx
   have := part_next g.ms i j a b
   rw [← this]
   by_cases e : a = i ∧ b = j
   ·rw [if_pos e, if_pos e.symm]
   ·rw [if_neg e, if_neg (fun k => e k.symm)])
  exact this
 shape := h.shape
 row := fun b hb => by
  by_cases e : b = j
  ·subst e; rw [hx]; exact hlt
  ·exact h.row b (by omega)
theorem St.nextRow {g : G} {w wr : World} {gr gc m i : Nat} (h : St g w wr gr gc m i m) (hm : (g.ms.getD i []).length = m) : St g w wr gr gc m (i + 1) 0 where
 boxed := h.boxed
 rows := h.rows.congr fun a b _ _ => part_row g.ms i m a b hm
 cols := h.cols.congr fun b a _ _ => part_row g.ms i m a b hm
 shape := fun a ha => by
  by_cases e : a = i
  ·subst e
   refine ⟨hm, fun x hx => ?_⟩
   obtain ⟨b, hb, rfl⟩ := List.getElem_of_mem hx
   have := h.row b (by omega)
   unfold mat at this
   have e : (g.ms.getD a []).getD b 0 = (g.ms.getD a [])[b] := by rw [List.getD_eq_getElem?_getD, List.getElem?_eq_getElem hb, Option.getD_some]
   rw [e] at this
   exact this
  ·exact h.shape a (by omega)
 row := fun b hb => by omega
theorem madeBlk (w : World) (n : Nat) : Blk (w.alloc (made n)) w.heap.size n (fun _ _ => 0) := Blk.made w n _ rfl
theorem Boxed.lt {g : G} {w w1 : World} (h : Boxed g w w1) : w.heap.size < w1.heap.size := (Array.getElem?_eq_some_iff.1 h.box).1
theorem St.made1 {g : G} {w w2 : World} (h : Boxed g w w2) (m : Nat) : St g w ((w2.alloc (made g.ms.length)).alloc (made m)).drew w2.heap.size (w2.heap.size + 1) m 0 0 where
 boxed := h.go ((((Below.refl _ _).alloc (Nat.le_refl _) _).alloc (by simp) _).drew)
 rows := ((madeBlk w2 g.ms.length).below ((Below.refl _ _).alloc (Nat.le_refl _) _).drew).congr fun a b _ _ => (part_zero g.ms a b).symm
 cols := by
  have := madeBlk (w2.alloc (made g.ms.length)) m
  rw [World.size_alloc] at this
  exact Blk.congr this.drew fun b a _ _ => (part_zero g.ms a b).symm
 shape := fun a ha => by omega
 row := fun b hb => by omega
theorem St.made2 {g : G} {w w2 : World} (h : Boxed g w w2) (m : Nat) : St g w ((w2.alloc (made m)).alloc (made g.ms.length)).drew (w2.heap.size + 1) w2.heap.size m 0 0 where
 boxed := h.go ((((Below.refl _ _).alloc (Nat.le_refl _) _).alloc (by simp) _).drew)
 cols := ((madeBlk w2 m).below ((Below.refl _ _).alloc (Nat.le_refl _) _).drew).congr fun b a _ _ => (part_zero g.ms a b).symm
 rows := by
  have := madeBlk (w2.alloc (made m)) g.ms.length
  rw [World.size_alloc] at this
  exact Blk.congr this.drew fun a b _ _ => (part_zero g.ms a b).symm
 shape := fun a ha => by omega
 row := fun b hb => by omega
theorem differ_to (A : Option Addr) (c : Nat) (ls : List (List Int)) (w : World) (n : Nat) (r : Bool) (hr : (open Classical in decide ls.Nodup) = r) (hn : ls.length = n) (hC : kLine.C w A n ls) (hok : ∀ l ∈ ls, lineOk l) :
  Calls Try.prog 42 #[.slice A n c] w fun e w' => e = .returned (.bool r) ∧ Below w.heap.size w w' := by
 subst hn; subst hr; exact differ_calls A c ls w hC hok
theorem valid4 (A0 : Option Addr) (c0 : Nat) (la : List ByteArray) (A1 : Option Addr) (c1 : Nat) (ls : List ByteArray) (A2 : Option Addr) (c2 : Nat) (lo : List ByteArray) (A3 : Option Addr) (c3 : Nat) (of : List Int) (A4 : Option Addr) (c4 : Nat) (on : List Int) (A5 : Option Addr) (c5 : Nat) (ms : List (List Int)) (w : World)
  (hg : (G.mk A0 c0 la A1 c1 ls A2 c2 lo A3 c3 of A4 c4 on A5 c5 ms).In w) (h0 : la.length ≤ 16) (h1 : ls.length ≤ 64) (h2 : lo.length ≤ 64) (b0 : onceB la = true) (b1 : onceB ls = true) (b2 : onceB lo = true) (hof : of.length = ls.length) (hon : on.length = lo.length)
  (m : Nat) (t3 : told (great 0 of) = ((ms.length : Int), true)) (t4 : told (great 0 on) = ((m : Int), true)) (hn64 : ms.length ≤ 64) (hm64 : m ≤ 64) :
  Calls Try.prog 22 #[(G.mk A0 c0 la A1 c1 ls A2 c2 lo A3 c3 of A4 c4 on A5 c5 ms).val] w fun e w' => e = .returned (.bool (validB la ls lo of on ms)) ∧ Below w.heap.size w w' := by
 unfold G.val
 have HG := jA hg
 have B0 := jA b0
 have B1 := jA b1
 have B2 := jA b2
 have HO3 := jA hof
 have HO4 := jA hon
 have T3 := jA t3
 have T4 := jA t4
 clear hg b0 b1 b2 t3 t4
 have hmk := make_lines ms.length hn64
 have hmk' := make_lines m hm64
 go_enter Try.func22, Try.ntmps22
 go_upto_region 9 with (first | (go_at_call 40; (with_reducible refine (once_go A0 c0 la _ true B0.out ?s1 HG.out.l0).mono ?_); (case s1 => repeat (first | exact HG.out.h0 | (with_reducible refine Kd.C_alloc ?_ _) | (with_reducible refine Kd.C_drewN ?_ _) | (with_reducible refine Kd.C_drew ?_))); rintro e w' ⟨rfl, ⟨nd, rfl⟩⟩) | (go_at_call 40; (with_reducible refine (once_go A1 c1 ls _ true B1.out ?s1 HG.out.l1).mono ?_); (case s1 => repeat (first | exact HG.out.h1 | (with_reducible refine Kd.C_alloc ?_ _) | (with_reducible refine Kd.C_drewN ?_ _) | (with_reducible refine Kd.C_drew ?_))); rintro e w' ⟨rfl, ⟨nd, rfl⟩⟩) | (go_at_call 40; (with_reducible refine (once_go A2 c2 lo _ true B2.out ?s1 HG.out.l2).mono ?_); (case s1 => repeat (first | exact HG.out.h2 | (with_reducible refine Kd.C_alloc ?_ _) | (with_reducible refine Kd.C_drewN ?_ _) | (with_reducible refine Kd.C_drew ?_))); rintro e w' ⟨rfl, ⟨nd, rfl⟩⟩) | (go_at_call 41; (with_reducible refine (counted_to A3 c3 of _ (ms.length : Int) true _ HO3.out T3.out ?s1 HG.out.l3).mono ?_); (case s1 => first | exact (HG.out.below (Boxed.start (G.mk A0 c0 la A1 c1 ls A2 c2 lo A3 c3 of A4 c4 on A5 c5 ms) w _).below).h3 | exact (HG.out.below (Aside0.out ‹Aside0 (Boxed (G.mk A0 c0 la A1 c1 ls A2 c2 lo A3 c3 of A4 c4 on A5 c5 ms) w _)›).below).h3); rintro e w2 ⟨rfl, hb2⟩; have BX := Boxed.go (Boxed.start (G.mk A0 c0 la A1 c1 ls A2 c2 lo A3 c3 of A4 c4 on A5 c5 ms) w _) hb2; have e5 := BX.c5; have e4 := BX.c4; have e0 := BX.c0; have BX := jA BX; clear hb2) | (go_at_call 41; (with_reducible refine (counted_to A4 c4 on _ (m : Int) true _ HO4.out T4.out ?s1 HG.out.l4).mono ?_); (case s1 => first | exact (HG.out.below (Boxed.start (G.mk A0 c0 la A1 c1 ls A2 c2 lo A3 c3 of A4 c4 on A5 c5 ms) w _).below).h4 | exact (HG.out.below (Aside0.out ‹Aside0 (Boxed (G.mk A0 c0 la A1 c1 ls A2 c2 lo A3 c3 of A4 c4 on A5 c5 ms) w _)›).below).h4); rintro e w2 ⟨rfl, hb2⟩; have BX := Boxed.go (Aside0.out ‹Aside0 (Boxed (G.mk A0 c0 la A1 c1 ls A2 c2 lo A3 c3 of A4 c4 on A5 c5 ms) w _)›) hb2; have e5 := BX.c5; have e4 := BX.c4; have e0 := BX.c0; have BX := jA BX; clear hb2))
 go_cut [7, 8] (fun v7 v8 wx => ∃ gr gc, v7 = .slice (some ⟨gr, 0, none⟩) ms.length ms.length ∧ v8 = .slice (some ⟨gc, 0, none⟩) m m ∧ gr ≠ gc ∧ w.heap.size < gr ∧ w.heap.size < gc ∧ Aside0 (St (G.mk A0 c0 la A1 c1 ls A2 c2 lo A3 c3 of A4 c4 on A5 c5 ms) w wx gr gc m 0 0))
 case first =>
  go_region
  all_goals (go_wp2_with fail; go_meet)
  all_goals first
   | exact ⟨_, _, rfl, rfl, by omega, BX.out.lt, Nat.lt_succ_of_lt BX.out.lt, ⟨St.made1 BX.out m⟩⟩
   | exact ⟨_, _, rfl, rfl, by omega, Nat.lt_succ_of_lt BX.out.lt, BX.out.lt, ⟨St.made2 BX.out m⟩⟩
 case rest =>
  obtain ⟨gr, gc, rfl, rfl, hne, hgr, hgc, hSt⟩ := hcut
  have e5 := hSt.out.boxed.c5
  simp only [] at e5
  clear hmk hmk'
  go_wp2
  go_loopw [95] (fun v wr => ∃ i : Nat, v = .int .i64 i ∧ i ≤ ms.length ∧ Aside0 (St (G.mk A0 c0 la A1 c1 ls A2 c2 lo A3 c3 of A4 c4 on A5 c5 ms) w wr gr gc m i 0)) (fun v _ => ms.length - (intOf v).toNat)
  case atStart => exact ⟨0, rfl, Nat.zero_le _, hSt⟩
  case round =>
   obtain ⟨i, rfl, hi, hR⟩ := hrel
   by_cases hlt : i < ms.length
   ·obtain ⟨ad5, Ar, cr, e5r, hxr, hlr, hCr⟩ := PG.at_L3 HG.out.h5 (i : Int) (by omega) (by simp only []; omega)
    have e5r : A5 = some ad5 := e5r
    subst e5r
    have hget : PG.rd_L3 ms (i : Int) = ms.getD i [] := by simp [PG.rd_L3]
    simp only [hget, Int.toNat_natCast] at hxr hlr hCr
    replace hxr := (hR.out.boxed.below.cell (World.block_lt_of_cell? w _ hxr)).trans hxr
    obtain ⟨L, hL⟩ : ∃ L, L = ms.getD i [] := ⟨_, rfl⟩
    rw [← hL] at hxr hlr hCr
    have HL := jA hL
    have HCr := jA hCr
    clear hL hget hCr
    have c0' : (i : Int) < ms.length := by omega
    by_cases hm : L.length = m
    ·subst hm
     go_wp2
     go_loopw [106] (fun v wr => ∃ j : Nat, v = .int .i64 j ∧ j ≤ L.length ∧ Aside0 (St (G.mk A0 c0 la A1 c1 ls A2 c2 lo A3 c3 of A4 c4 on (some ad5) c5 ms) w wr gr gc L.length i j)) (fun v _ => L.length - (intOf v).toNat)
     case atStart => exact ⟨0, rfl, Nat.zero_le _, hR⟩
     case round =>
      obtain ⟨j, rfl, hj, hRj⟩ := hrel
      by_cases hltj : j < L.length
      ·obtain ⟨adr, er, hxj⟩ := Kd.at_int HCr.out (j : Int) (by omega) (by omega)
       subst er
       simp only [Int.toNat_natCast] at hxj
       replace hxj := (hRj.out.boxed.below.cell (World.block_lt_of_cell? w _ hxj)).trans hxj
       have e5' := hRj.out.boxed.c0
       simp only [] at e5'
       have c0'' : (j : Int) < L.length := by omega
       have hu : 0 ≤ rd L (j : Int) ∧ rd L (j : Int) ≤ 65535 := by
        have := HG.out.u16 (ms.getD i []) (by simp only [List.getD_eq_getElem?_getD, List.getElem?_eq_getElem hlt, Option.getD_some]; exact List.getElem_mem hlt) (rd L (j : Int)) (by rw [← HL.out]; simp [rd, hltj])
        have h2 : IntKind.u16.min ≤ rd L (j : Int) ∧ rd L (j : Int) ≤ IntKind.u16.max := by simpa [Lit.wf] using this
        exact h2
       have hw64 : wrap64 (rd L (j : Int)) = rd L (j : Int) := by unfold wrap64; omega
       by_cases hx : rd L (j : Int) < 2 ^ la.length
       ·have hq : (wrap64 (rd L (j : Int)) / 2 ^ la.length != 0) = false := by
         rw [hw64, bne_eq_false_iff_eq]
         exact Int.ediv_eq_zero_of_lt hu.1 hx
        have HX := jA hx
        clear hx hu hw64
        have n1 : j < 64 := by omega
        have n2 : i < 64 := by omega
        have hc1 := hRj.out.rows.cell (i := i) (j := j) hlt n1
        have hc2 := hRj.out.cols.cell (i := j) (j := i) hltj n2
        have hf1 := hRj.out.rows.frozen (i * 64 + j)
        have hf2 := hRj.out.cols.frozen (j * 64 + i)
        go_upto_region 20 with fail
        go_region
        go_wp2
        go_roundw
        case rel => exact ⟨j + 1, by go_num, by omega, ⟨hRj.out.next hne hgr hgc n2 n1 _ (by rw [mat, ← HL.out]; simp [rd, hltj]) HX.out⟩⟩
        case measure => simp [intOf]; omega
       ·have hq : (wrap64 (rd L (j : Int)) / 2 ^ la.length != 0) = true := by
         rw [hw64, bne_iff_ne]
         intro e
         have hp : (0 : Int) < 2 ^ la.length := Int.pow_pos (by decide)
         have := Int.lt_ediv_add_one_mul_self (rd L (j : Int)) hp
         rw [e] at this
         omega
        have HX := jA hx
        clear hx hu hw64
        go_wp2
        go_ret
        refine ⟨?_, hRj.out.boxed.below⟩
        have hv : validB la ls lo of on ms = false := valid_shape_false la ls lo of on ms L.length T4.out i hlt ?_
        rw [hv]
        rfl
        rintro ⟨-, hh⟩
        rw [← HL.out] at hh
        exact Int.not_lt.2 HX.out (hh _ (by simp [rd, hltj]))
      ·have hjj : j = L.length := by omega
       subst hjj
       go_wp2
       go_roundw
       case rel => exact ⟨i + 1, by go_num, by omega, ⟨hRj.out.nextRow (by rw [← HL.out])⟩⟩
       case measure => simp [intOf]; omega
    ·have hmI : ¬ (L.length : Int) = (m : Int) := by omega
     have HM := jA hm
     clear hm
     go_wp2
     go_ret
     refine ⟨?_, hR.out.boxed.below⟩
     have hv : validB la ls lo of on ms = false := valid_shape_false la ls lo of on ms m T4.out i hlt ?_
     rw [hv]
     rfl
     rintro ⟨hh, -⟩
     rw [← HL.out] at hh
     exact HM.out hh
   ·have hii : i = ms.length := by omega
    subst hii
    have hRows := hR.out.rows.congr (F' := mat ms) (fun a b _ _ => part_all ms a b)
    have hCols := hR.out.cols.congr (F' := fun b a => mat ms a b) (fun b a _ _ => part_all ms a b)
    have hfin := valid_fin la ls lo of on ms m h0 h1 h2 B0.out B1.out B2.out HO3.out HO4.out T3.out T4.out hn64 hm64 hR.out.shape
    have hC1 := hRows.C (by simp only []; omega)
    have hC2 := hCols.C (by omega)
    have hK1 := linesOf_ok (n := ms.length) (F := mat ms) (fun a b _ _ => mat_u16 ms HG.out.u16 a b)
    have hK2 := linesOf_ok (n := m) (F := fun b a => mat ms a b) (fun b a _ _ => mat_u16 ms HG.out.u16 a b)
    have HC1 := jA hC1
    have HC2 := jA hC2
    have HK1 := jA hK1
    have HK2 := jA hK2
    have HFIN := jA hfin
    clear hC1 hC2 hK1 hK2 hfin hRows hCols
    obtain ⟨r1, hr1⟩ : ∃ r, (open Classical in decide (linesOf ms.length (mat ms)).Nodup) = r := ⟨_, rfl⟩
    obtain ⟨r2, hr2⟩ : ∃ r, (open Classical in decide (linesOf m (fun b a => mat ms a b)).Nodup) = r := ⟨_, rfl⟩
    have R1 := jA hr1
    have R2 := jA hr2
    clear hr1 hr2
    cases r1 <;> go_wp2_with (first | (go_at_call 42; (with_reducible refine (differ_to (some ⟨gr, 0, none⟩) ms.length (linesOf ms.length (mat ms)) _ ms.length _ R1.out (linesOf_length _ _) HC1.out HK1.out).mono ?_); rintro e w5 ⟨rfl, hb5⟩; have HB5 := jA hb5; clear hb5) | (go_at_call 42; (with_reducible refine (differ_to (some ⟨gc, 0, none⟩) m (linesOf m (fun b a => mat ms a b)) _ m r2 R2.out (linesOf_length _ _) ?s1 HK2.out).mono ?_); (case s1 => exact Kd.C_below HC2.out (Aside0.out ‹Aside0 (Below _ wr _)›)); rintro e w6 ⟨rfl, hb6⟩; have HB6 := jA hb6; clear hb6))
    ·go_ret
     refine ⟨?_, below_then hR.out.boxed.below hR.out.boxed.below.size HB5.out⟩
     have hv := HFIN.out
     rw [R1.out] at hv
     rw [← hv]
     rfl
    ·go_ret
     refine ⟨?_, below_then (below_then hR.out.boxed.below hR.out.boxed.below.size HB5.out) (Nat.le_trans hR.out.boxed.below.size HB5.out.size) HB6.out⟩
     have hv := HFIN.out
     rw [R1.out, R2.out] at hv
     rw [← hv]
     rfl
theorem onceB_cases (l : List ByteArray) : onceB l = true ∨ onceB l = false := by cases onceB l <;> simp
open Classical in
theorem valid_calls (g : G) (w : World) (hg : g.In w) :
  Calls Try.prog 22 #[g.val] w fun e w' => e = .returned (.bool (validB g.la g.ls g.lo g.of g.on g.ms)) ∧ Below w.heap.size w w' := by
 have hno : validB g.la g.ls g.lo g.of g.on g.ms = false → (Calls Try.prog 22 #[g.val] w fun e w' => e = .returned (.bool false) ∧ Below w.heap.size w w') → (Calls Try.prog 22 #[g.val] w fun e w' => e = .returned (.bool (validB g.la g.ls g.lo g.of g.on g.ms)) ∧ Below w.heap.size w w') := by
  intro h; rw [h]; exact id
 by_cases hc : g.la.length ≤ 16 ∧ g.ls.length ≤ 64 ∧ g.lo.length ≤ 64
 ·obtain ⟨h0, h1, h2⟩ := hc
  rcases onceB_cases g.la with b0 | b0
  ·rcases onceB_cases g.ls with b1 | b1
   ·rcases onceB_cases g.lo with b2 | b2
    ·by_cases hof : g.of.length = g.ls.length
     ·by_cases hon : g.on.length = g.lo.length
      ·obtain ⟨⟨tn, tok⟩, t3⟩ : ∃ p, told (great 0 g.of) = p := ⟨_, rfl⟩
       obtain ⟨⟨tm, tis⟩, t4⟩ : ∃ p, told (great 0 g.on) = p := ⟨_, rfl⟩
       cases tok with
       | false =>
        refine hno (decide_eq_false ?_) (valid3a g w hg h0 h1 h2 b0 b1 b2 hof hon tn tm false tis t3 t4 rfl)
        rintro ⟨-, -, -, -, -, -, -, -, n', m', e, -⟩
        rw [e] at t3; simp [told] at t3
       | true =>
        cases tis with
        | false =>
         refine hno (decide_eq_false ?_) (valid3b g w hg h0 h1 h2 b0 b1 b2 hof hon tn tm true false t3 t4 rfl rfl)
         rintro ⟨-, -, -, -, -, -, -, -, n', m', -, e, -⟩
         rw [e] at t4; simp [told] at t4
        | true =>
         by_cases hn : (g.ms.length : Int) = tn
         ·subst hn
          obtain ⟨n', hn', hn2⟩ := great_nat (told_some t3)
          obtain ⟨m', rfl, hm2⟩ := great_nat (told_some t4)
          exact valid4 g.A0 g.c0 g.la g.A1 g.c1 g.ls g.A2 g.c2 g.lo g.A3 g.c3 g.of g.A4 g.c4 g.on g.A5 g.c5 g.ms w hg h0 h1 h2 b0 b1 b2 hof hon m' t3 t4 (by omega) (by omega)
         ·refine hno (decide_eq_false ?_) (valid3c g w hg h0 h1 h2 b0 b1 b2 hof hon tn tm true true t3 t4 rfl rfl hn)
          rintro ⟨-, -, -, -, -, -, -, -, n', m', e, -, ⟨e2, -⟩, -⟩
          rw [told_some t3] at e
          have := Option.some.inj e
          omega
      ·refine hno (decide_eq_false ?_) (valid2e g w hg h0 h1 h2 b0 b1 b2 hof hon)
       rintro ⟨-, -, -, -, e, -⟩
       exact hon e
     ·refine hno (decide_eq_false ?_) (valid2d g w hg h0 h1 h2 b0 b1 b2 hof)
      rintro ⟨-, -, -, e, -⟩
      exact hof e
    ·refine hno (decide_eq_false ?_) (valid2c g w hg h0 h1 h2 b0 b1 b2)
     rintro ⟨-, -, -, -, -, -, -, e, -⟩
     exact absurd e (of_decide_eq_false b2)
   ·refine hno (decide_eq_false ?_) (valid2b g w hg h0 h1 h2 b0 b1)
    rintro ⟨-, -, -, -, -, -, e, -⟩
    exact absurd e (of_decide_eq_false b1)
  ·refine hno (decide_eq_false ?_) (valid2a g w hg h0 h1 h2 b0)
   rintro ⟨-, -, -, -, -, e, -⟩
   exact absurd e (of_decide_eq_false b0)
 ·refine hno (decide_eq_false ?_) (valid1 g w hc)
  rintro ⟨h0, h1, h2, -⟩
  exact hc ⟨h0, h1, h2⟩
end Go.Proofs.Ytdgkppldopiaoaa.GValid
/- graph.Compile, walked. -/
namespace Go.Proofs.Ytdgkppldopiaoaa.CCompile
open Go.RowKit YtdgkppldopiaoaaW.PrintWords YtdgkppldopiaoaaW.PrintLast YtdgkppldopiaoaaW.PrintMore BMap BRow GDiffer GBlk CPure CBits CClasses CMasks CClone CSame GValid MLines MSide MPol Go.Maps
open PG
theorem z59 (w : World) : (zeroValue 59).run Try.prog w = .ok (.agg #[.slice none 0 0, .slice none 0 0, .slice none 0 0, .slice none 0 0, .slice none 0 0, .slice none 0 0]) w := by kernel_rfl
theorem i26 : (Try.prog.info? 59).map (·.size) = some 6 := by kernel_rfl
abbrev gV (v0 v1 v2 v3 v4 v5 : Value) : Array Value := #[v0, v1, v2, v3, v4, v5]
abbrev S3 (g3 gr gc : Nat) : Nat → Prop := fun b => b = g3 ∨ b = gr ∨ b = gc
structure Lp (d : PolD) (g3 gr gc : Nat) (WB wr : World) (u0 v1 u2 : Value) (ns : List ByteArray) (i j : Nat) : Prop where
 same : Same (S3 g3 gr gc) WB wr
 g : Stays wr g3 (gV u0 v1 u2 (.slice none 0 0) (.slice none 0 0) (.slice none 0 0)) 59
 r1 : Kd.R Kd.string 9 wr WB.heap.size (fun _ => True) v1 ns
 rows : Blk wr gr d.subs.length (prt (fill d.objs.length (matD d)) i j)
 cols : Blk wr gc d.objs.length (fun b a => prt (fill d.objs.length (matD d)) i j a b)
theorem blk_of {W w1 : World} {g n : Nat} {F : Nat → Nat → Int} (hB : Blk W g n F) (e : w1.heap[g]? = W.heap[g]?) : Blk w1 g n F := World.rowIs.of_block hB e
namespace Lp
variable {d : PolD} {g3 gr gc : Nat} {WB wr w1 : World} {u0 v1 u2 v' : Value} {ns ns' : List ByteArray} {i j : Nat}
theorem move (h : Lp d g3 gr gc WB wr u0 v1 u2 ns i j) (hb : Below wr.heap.size wr w1) : Lp d g3 gr gc WB w1 u0 v1 u2 ns i j :=
 ⟨h.same.move hb, h.g.below hb, Kd.R_below h.r1 hb, h.rows.below hb, h.cols.below hb⟩
theorem blk_ne {e : Nat} {base : Nat} {ok : Nat → Prop} {v : Value} {xs : List ByteArray} {W : World} (h : Kd.R Kd.string e W base ok v xs) {g n : Nat} {F : Nat → Nat → Int} (hB : Blk W g n F) (ht : e ≠ 112) : some g ≠ v.ownBlock := by
 obtain ⟨c, hb, _⟩ := hB
 exact Kd.R_ne h hb ht
theorem app (h : Lp d g3 gr gc WB wr u0 v1 u2 ns i j) (hr : Kd.R Kd.string 9 w1 WB.heap.size (fun _ => True) v' ns') (hg : wr.grownBy w1 v1.ownBlock) (n1 : gr ≠ g3) (n2 : gc ≠ g3) : Lp d g3 gr gc WB (w1.setCell ⟨g3, 1, none⟩ v') u0 v' u2 ns' i j where
 same := (h.same.grown hg (fun k hk => by
  obtain ⟨inner, ho⟩ := Kd.R_own h.r1
  exact .inr (own_base ho k hk))).set (.inl (.inl rfl)) v'
 g := stays_set ((hg.block _ (Array.getElem?_eq_some_iff.1 h.g).1 (Kd.R_ne h.r1 h.g (by decide))).trans h.g) 1 v'
 r1 := R_set hr ((hg.block _ (Array.getElem?_eq_some_iff.1 h.g).1 (Kd.R_ne h.r1 h.g (by decide))).trans h.g) (by decide) 1 v'
 rows := Blk.far (blk_of h.rows (hg.block _ h.rows.lt (blk_ne h.r1 h.rows (by decide)))) (by exact n1) v'
 cols := Blk.far (blk_of h.cols (hg.block _ h.cols.lt (blk_ne h.r1 h.cols (by decide)))) (by exact n2) v'
theorem put (h : Lp d g3 gr gc WB wr u0 v1 u2 ns i j) (n0 : gr ≠ gc) (n1 : gr ≠ g3) (n2 : gc ≠ g3) (hi : i < 64) (hj : j < 64) (x : Int) (hx : fill d.objs.length (matD d) i j = x) :
  Lp d g3 gr gc WB ((wr.setCell ⟨gr, i * 64 + j, none⟩ (.int .u16 x)).setCell ⟨gc, j * 64 + i, none⟩ (.int .u16 x)).drew u0 v1 u2 ns i (j + 1) where
 same := ((h.same.set (.inl (.inr (.inl rfl))) _).set (.inl (.inr (.inr rfl))) _).drew
 g := stays_far (stays_far h.g (by exact n1.symm) _) (by exact n2.symm) _
 r1 := by
  obtain ⟨c1, hb1, _⟩ := h.rows
  obtain ⟨c2, hb2, _⟩ := h.cols.far (a := ⟨gr, i * 64 + j, none⟩) (by show gc ≠ gr; exact n0.symm) (.int .u16 x)
  exact R_set (R_set h.r1 hb1 (by decide) _ _) hb2 (by decide) _ _
 rows := by
  have := ((h.rows.set (i := i) hj x).far (a := ⟨gc, j * 64 + i, none⟩) (by show gr ≠ gc; exact n0) (.int .u16 x)).congr (F' := prt (fill d.objs.length (matD d)) i (j + 1)) (fun a b _ _ => by
   subst hx; exact prt_next _ i j a b)
  exact this
 cols := by
  have := ((h.cols.far (a := ⟨gr, i * 64 + j, none⟩) (by show gc ≠ gr; exact n0.symm) (.int .u16 x)).set (i := j) hi x).congr (F' := fun b a => prt (fill d.objs.length (matD d)) i (j + 1) a b) (fun b a _ _ => by
   subst hx
   have := prt_next (fill d.objs.length (matD d)) i j a b
   rw [← this]
   by_cases e : a = i ∧ b = j
   ·rw [if_pos e, if_pos e.symm]
   ·rw [if_neg e, if_neg (fun k => e k.symm)])
  exact this
theorem nextRow (h : Lp d g3 gr gc WB wr u0 v1 u2 ns i d.objs.length) : Lp d g3 gr gc WB wr u0 v1 u2 ns (i + 1) 0 :=
 ⟨h.same, h.g, h.r1, h.rows.congr fun a b _ _ => prt_row _ _ i a b, h.cols.congr fun b a _ _ => prt_row _ _ i a b⟩
end Lp
theorem made_two (w2 : World) (n m : Nat) : Blk ((w2.alloc (made n)).alloc (made m)).drew w2.heap.size n (fun _ _ => 0) ∧ Blk ((w2.alloc (made n)).alloc (made m)).drew (w2.heap.size + 1) m (fun _ _ => 0) ∧ Below w2.heap.size w2 ((w2.alloc (made n)).alloc (made m)).drew := by
 refine ⟨(madeBlk w2 n).below ((Below.refl _ _).alloc (Nat.le_refl _) _).drew, ?_, below_drew (below_alloc (below_alloc (Below.refl _ _) _) _)⟩
 have := madeBlk (w2.alloc (made n)) m
 rw [World.size_alloc] at this
 exact this.drew
theorem classes_to (A : Option Addr) (c : Nat) (ls : List (List Int)) (w : World) (n : Nat) (hn : ls.length = n) (hC : kLine.C w A n ls) (hok : ∀ l ∈ ls, lineOk l) (hl : n ≤ 64) :
  Calls Try.prog 34 #[.slice A n c] w fun e w' => ∃ v4 v5, e = .returned (.tuple #[v4, v5]) ∧ Kd.R (Kd.int .i64) 3 w' w.heap.size (fun _ => True) v4 (numsOf ls) ∧ Kd.R (Kd.int .i64) 3 w' w.heap.size (fun _ => True) v5 (firstsOf ls) ∧ Below w.heap.size w w' := by
 subst hn; exact classes_calls A c ls w hC hok hl
theorem info103 : (Try.prog.info? 103).map (fun i => (i.zero, i.size, i.bytes)) = some (some (.slice none 0 0), 1, 24) := by kernel_rfl
theorem make_row (m : Nat) (hm : m ≤ 64) (w : World) : (Instr.makeSlice 103 (.int .i64 0) (.int .i64 (m : Int))).run Try.prog w = .ok (.slice (some ⟨w.heap.size, 0, none⟩) 0 m) (w.alloc (.cells (madeCells #[.int .u16 0] m) 104)) := by
 have h : (Try.prog.info? 104).map (fun i => (i.zero, i.size, i.bytes)) = some (some (.int .u16 0), 1, 2) := PG.info104
 obtain ⟨i, h1, hz⟩ := Option.map_eq_some_iff.1 h
 simp only [Prod.mk.injEq] at hz
 obtain ⟨h2, h3, h4⟩ := hz
 have := run_make (P := Try.prog) w 103 104 i _ Try.underlying103 h1 h2 .i64 .i64 0 m (by omega) (by omega) (by rw [h4]; omega) (by omega)
 rw [h3] at this
 simpa [Value.cells] using this
theorem row_none (w : World) (m : Nat) (hm : m ≤ 64) : Kd.R (Kd.int .u16) 104 (w.alloc (.cells (madeCells #[.int .u16 0] m) 104)) w.heap.size (fun _ => True) (.slice (some ⟨w.heap.size, 0, none⟩) 0 m) [] := by
 have h2 : (w.alloc (.cells (madeCells #[.int .u16 0] m) 104)).ownsRow w.heap.size 104 1 (.slice (some ⟨w.heap.size, 0, none⟩) 0 m) ([] : List Int).length (encs (Value.int .u16) []) := by
  have e : (List.replicate m (0 : Int)).length = m := by simp
  have h0 := own_made' w w.heap.size 104 .u16 m (Nat.le_refl _) (by omega)
  rw [e] at h0
  have h1 := own_take (m := 0) h0 (Nat.zero_le _)
  simpa [encs] using h1
 exact Kd.R_of_own (h1 := fun _ => rfl) h2 (fun _ _ => trivial)
abbrev S1 (g3 : Nat) : Nat → Prop := fun b => b = g3
theorem offG {α : Type} {dk : Kd α} {e base g3 : Nat} {ok : Nat → Prop} {w : World} {v : Value} {xs : List α} {cs : Array Value} (h : dk.R e w base ok v xs) (hg : Stays w g3 cs 59) (ht : ∀ q, q ∈ e :: dk.E → q ≠ 59) : dk.R e w base (fun k => ¬ S1 g3 k) v xs := Kd.R_mono (Kd.R_types h hg ht) (fun _ hk => hk.2)
structure Mk (g3 : Nat) (W wr : World) (u0 v1 u2 v4 v6 vm : Value) (ms : List (List Int)) : Prop where
 same : Same (S1 g3) W wr
 g : Stays wr g3 (gV u0 v1 u2 v4 v6 vm) 59
 ms : Kd.R (Kd.slice 104 (Kd.int .u16)) 103 wr W.heap.size (fun _ => True) vm ms
theorem types_ms : ∀ q, q ∈ 103 :: (Kd.slice 104 (Kd.int .u16)).E → q ≠ 59 := by
 intro q hq
 simp [Kd.slice, Kd.int, Kd.scalar] at hq
 omega
namespace Mk
variable {g3 : Nat} {W wr w1 : World} {u0 v1 u2 v4 v6 vm v' : Value} {ms ms' : List (List Int)}
theorem move (h : Mk g3 W wr u0 v1 u2 v4 v6 vm ms) (hb : Below wr.heap.size wr w1) : Mk g3 W w1 u0 v1 u2 v4 v6 vm ms := ⟨h.same.move hb, h.g.below hb, Kd.R_below h.ms hb⟩
theorem row {B : Nat} (h : Mk g3 W wr u0 v1 u2 v4 v6 vm ms) (hms : Kd.R (Kd.slice 104 (Kd.int .u16)) 103 wr W.heap.size (fun b => b < B) vm ms) (hB : W.heap.size ≤ B) {vr : Value} (hr : ∀ k, vr.ownBlock = some k → B ≤ k) (hg : wr.grownBy w1 vr.ownBlock) (hne : some g3 ≠ vr.ownBlock) : Mk g3 W w1 u0 v1 u2 v4 v6 vm ms ∧ Kd.R (Kd.slice 104 (Kd.int .u16)) 103 w1 W.heap.size (fun b => b < B) vm ms := by
 have h1 := Kd.R_grown hms hg (fun k hk e => by have := hr k e.symm; omega)
 exact ⟨⟨h.same.grown hg (fun k hk => .inr (Nat.le_trans hB (hr k hk))), (hg.block _ (Array.getElem?_eq_some_iff.1 h.g).1 hne).trans h.g, Kd.R_mono h1 (fun _ _ => trivial)⟩, h1⟩
theorem app (h : Mk g3 W wr u0 v1 u2 v4 v6 vm ms) (hr : Kd.R (Kd.slice 104 (Kd.int .u16)) 103 w1 W.heap.size (fun _ => True) v' ms') (hg : wr.grownBy w1 vm.ownBlock) : Mk g3 W (w1.setCell ⟨g3, 5, none⟩ v') u0 v1 u2 v4 v6 v' ms' where
 same := (h.same.grown hg (fun k hk => by
  obtain ⟨inner, ho⟩ := Kd.R_own h.ms
  exact .inr (own_base ho k hk))).set (.inl rfl) v'
 g := stays_set ((hg.block _ (Array.getElem?_eq_some_iff.1 h.g).1 (Kd.R_ne h.ms h.g (by decide))).trans h.g) 5 v'
 ms := R_set hr ((hg.block _ (Array.getElem?_eq_some_iff.1 h.g).1 (Kd.R_ne h.ms h.g (by decide))).trans h.g) types_ms 5 v'
end Mk
theorem compile_calls (p : Pol) (w : World) (hp : p.In w) (hd : p.d.Ok) (hs : p.d.subs.length ≤ 64) (ho : p.d.objs.length ≤ 64) (ha : p.d.acts.length ≤ 16) :
  Calls Try.prog 14 #[.agg p.cells] w fun e w' => ∃ g : G, e = .returned g.val ∧ g.In w' ∧ g.la = p.d.acts ∧ g.ls = p.d.subs.map (·.f0) ∧ g.lo = p.d.objs ∧ g.of = ofM p.d.subs.length p.d.objs.length (matD p.d) ∧ g.on = ofM p.d.objs.length p.d.subs.length (fun j i => matD p.d i j) ∧ g.ms = masksM p.d.subs.length p.d.objs.length (matD p.d) ∧ Below w.heap.size w w' := by
 obtain ⟨d, A0, c0, A1, c1, A2, c2, A3, c3, A4, c4, A5, c5, A6, c6, A7, c7, A8, c8, A9, c9, A10, c10⟩ := p
 have HP := jA hp
 have HD := jA hd
 have hs : d.subs.length ≤ 64 := hs
 have ho : d.objs.length ≤ 64 := ho
 have ha : d.acts.length ≤ 16 := ha
 clear hp hd
 have Za : Stays (w.alloc (.cells (Pol.cells (Pol.mk d A0 c0 A1 c1 A2 c2 A3 c3 A4 c4 A5 c5 A6 c6 A7 c7 A8 c8 A9 c9 A10 c10)) 31)) w.heap.size (Pol.cells (Pol.mk d A0 c0 A1 c1 A2 c2 A3 c3 A4 c4 A5 c5 A6 c6 A7 c7 A8 c8 A9 c9 A10 c10)) 31 := heap_alloc_new w _
 have e0 := Za.cell 0
 have e1 := Za.cell 1
 have e3 := Za.cell 3
 simp only [Pol.cells, Jt, Ju, Jv] at e0 e1 e3
 have HST := jA Za
 clear Za
 unfold Pol.cells
 unfold Pol.cells at HST
 simp only [] at HST e0 e1 e3 ⊢
 have hz := z59
 go_enter Try.func14, Try.ntmps14
 go_upto_region 3 with fail
 clear hz e0 e1 e3
 have hW0s : Stays ((w.alloc (.cells #[.slice A0 d.acts.length c0, .slice A1 d.subs.length c1, .slice A2 d.roles.length c2, .slice A3 d.objs.length c3, .slice A4 d.grps.length c4, .slice A5 d.mem.length c5, .slice A6 d.inh.length c6, .slice A7 d.par.length c7, .slice A8 d.wit.length c8, .slice A9 d.rules.length c9, .slice A10 d.exc.length c10] 31)).alloc (.cells #[.slice none 0 0, .slice none 0 0, .slice none 0 0, .slice none 0 0, .slice none 0 0, .slice none 0 0] 59)) w.heap.size #[.slice A0 d.acts.length c0, .slice A1 d.subs.length c1, .slice A2 d.roles.length c2, .slice A3 d.objs.length c3, .slice A4 d.grps.length c4, .slice A5 d.mem.length c5, .slice A6 d.inh.length c6, .slice A7 d.par.length c7, .slice A8 d.wit.length c8, .slice A9 d.rules.length c9, .slice A10 d.exc.length c10] 31 := HST.out.below (below_alloc (Below.refl _ _) _)
 have hW0v : Stays ((w.alloc (.cells #[.slice A0 d.acts.length c0, .slice A1 d.subs.length c1, .slice A2 d.roles.length c2, .slice A3 d.objs.length c3, .slice A4 d.grps.length c4, .slice A5 d.mem.length c5, .slice A6 d.inh.length c6, .slice A7 d.par.length c7, .slice A8 d.wit.length c8, .slice A9 d.rules.length c9, .slice A10 d.exc.length c10] 31)).alloc (.cells #[.slice none 0 0, .slice none 0 0, .slice none 0 0, .slice none 0 0, .slice none 0 0, .slice none 0 0] 59)) (w.heap.size + 1) #[.slice none 0 0, .slice none 0 0, .slice none 0 0, .slice none 0 0, .slice none 0 0, .slice none 0 0] 59 := by
  have h := heap_alloc_new (w.alloc (.cells #[.slice A0 d.acts.length c0, .slice A1 d.subs.length c1, .slice A2 d.roles.length c2, .slice A3 d.objs.length c3, .slice A4 d.grps.length c4, .slice A5 d.mem.length c5, .slice A6 d.inh.length c6, .slice A7 d.par.length c7, .slice A8 d.wit.length c8, .slice A9 d.rules.length c9, .slice A10 d.exc.length c10] 31)) (.cells #[.slice none 0 0, .slice none 0 0, .slice none 0 0, .slice none 0 0, .slice none 0 0, .slice none 0 0] 59)
  rw [show (w.alloc (.cells #[.slice A0 d.acts.length c0, .slice A1 d.subs.length c1, .slice A2 d.roles.length c2, .slice A3 d.objs.length c3, .slice A4 d.grps.length c4, .slice A5 d.mem.length c5, .slice A6 d.inh.length c6, .slice A7 d.par.length c7, .slice A8 d.wit.length c8, .slice A9 d.rules.length c9, .slice A10 d.exc.length c10] 31)).heap.size = w.heap.size + 1 from Array.size_push ..] at h
  exact h
 have hW0b : Below w.heap.size w ((w.alloc (.cells #[.slice A0 d.acts.length c0, .slice A1 d.subs.length c1, .slice A2 d.roles.length c2, .slice A3 d.objs.length c3, .slice A4 d.grps.length c4, .slice A5 d.mem.length c5, .slice A6 d.inh.length c6, .slice A7 d.par.length c7, .slice A8 d.wit.length c8, .slice A9 d.rules.length c9, .slice A10 d.exc.length c10] 31)).alloc (.cells #[.slice none 0 0, .slice none 0 0, .slice none 0 0, .slice none 0 0, .slice none 0 0, .slice none 0 0] 59)) := below_alloc (below_alloc (Below.refl _ _) _) _
 obtain ⟨W0, hW0⟩ : ∃ W0, W0 = ((w.alloc (.cells #[.slice A0 d.acts.length c0, .slice A1 d.subs.length c1, .slice A2 d.roles.length c2, .slice A3 d.objs.length c3, .slice A4 d.grps.length c4, .slice A5 d.mem.length c5, .slice A6 d.inh.length c6, .slice A7 d.par.length c7, .slice A8 d.wit.length c8, .slice A9 d.rules.length c9, .slice A10 d.exc.length c10] 31)).alloc (.cells #[.slice none 0 0, .slice none 0 0, .slice none 0 0, .slice none 0 0, .slice none 0 0, .slice none 0 0] 59)) := ⟨_, rfl⟩
 obtain ⟨gv, hgv⟩ : ∃ gv, gv = w.heap.size + 1 := ⟨_, rfl⟩
 rw [← hW0] at hW0s hW0v hW0b ⊢
 rw [← hgv] at hW0v ⊢
 have HGV := jA (show w.heap.size < gv by omega)
 have HB0 := jA hW0s
 have HV0 := jA hW0v
 have HW0 := jA hW0b
 clear hW0s hW0v hW0b hW0 hgv HST
 go_cut [3] (fun v3 wx => ∃ (g3 : Nat) (u0 u2 : Value), v3 = .pointer (some ⟨g3, 0, none⟩) ∧ Aside0 (gv < g3) ∧ Aside0 (Stays wx g3 (gV u0 (.slice none 0 0) u2 (.slice none 0 0) (.slice none 0 0) (.slice none 0 0)) 59) ∧ Aside0 (Kd.R Kd.string 9 wx w.heap.size (fun _ => True) u0 d.acts) ∧ Aside0 (Kd.R Kd.string 9 wx w.heap.size (fun _ => True) u2 d.objs) ∧ Aside0 (Below W0.heap.size W0 wx))
 case first =>
  have HB1 := jA (below_drew (Below.refl W0.heap.size W0))
  refine start_ (n := 9) (S := fun w' => w'.cell? ⟨w.heap.size, 0, none⟩ = some (.slice A0 d.acts.length c0) ∧ w'.cell? ⟨w.heap.size, 3, none⟩ = some (.slice A3 d.objs.length c3)) (ds := [8]) (Jb 9 0) (by kernel_rfl) rfl (by kernel_rfl) ⟨HB0.out.cell 0, HB0.out.cell 3⟩ (fun hHeld => ?_)
  obtain ⟨W1, hW1⟩ : ∃ W1, W1 = W0.drew := ⟨_, rfl⟩
  rw [← hW1] at hHeld HB1 ⊢
  clear hW1
  refine Jp 0 36 (Jb 9 1) rfl rfl ?_
  refine Jk 1 37 (Jb 9 3) rfl rfl hHeld (.inl ⟨by rfl, by rintro w' ⟨s0, s1⟩; go_simp; with_reducible rfl⟩) ?_
  refine Jp 3 39 (Jb 9 11) rfl rfl ?_
  refine Jk 4 40 (Jb 9 27) rfl rfl hHeld (.inl ⟨by rfl, by rintro w' ⟨s0, s1⟩; go_simp; with_reducible rfl⟩) ?_
  refine two_ (i := 2) (j := 7) (Ni := some 38) (Nj := some 3) (Jb 9 31) (Jb 9 155) rfl rfl rfl rfl (by kernel_rfl) (by decide) (by decide) (fun K hK => ?_) (fun K hK => ?_)
  ·refine goes_ Try.func32 (by kernel_rfl) rfl #[.slice A0 d.acts.length c0] (by rfl) rfl rfl (by (try simp only [List.map_toArray, List.map_cons, List.map_nil]); first | done | rfl) ?_
   refine (clone_calls A0 c0 d.acts _ ((HP.out.below (below_then HW0.out HW0.out.size HB1.out)).h0) (by omega)).mono ?_
   rintro e wA ⟨vv, rfl, hR, hb⟩
   obtain ⟨Ax, cx, rfl⟩ := Kd.R_slice hR
   refine ⟨_, rfl, ?_⟩
   have HB2 := jA (below_then HB1.out HB1.out.size hb)
   have HA := jA (Kd.R_lower hR (Nat.le_trans HW0.out.size HB1.out.size))
   clear hR hb
   refine hK.out _ _ ⟨pw_cell_below HB2.out (HB0.out.cell 0), pw_cell_below HB2.out (HB0.out.cell 3)⟩ (fun hHeld => ?_)
   clear hK K
   refine norm_ (a' := ?_) ?_ ?_; rotate_left; (show Act.put _ (some 38) _ = _; simp only [Act.put, Jq, Jr, Js]; rfl)
   refine two_ (i := 5) (j := 7) (Ni := some 41) (Nj := some 3) (Jb 9 63) (Jb 9 159) rfl rfl rfl rfl (by kernel_rfl) (by decide) (by decide) (fun K hK => ?_) (fun K hK => ?_)
   ·refine goes_ Try.func32 (by kernel_rfl) rfl #[.slice A3 d.objs.length c3] (by rfl) rfl rfl (by (try simp only [List.map_toArray, List.map_cons, List.map_nil]); first | done | rfl) ?_
    refine (clone_calls A3 c3 d.objs _ ((HP.out.below (below_then HW0.out HW0.out.size HB2.out)).h3) (by omega)).mono ?_
    rintro e wC ⟨vv, rfl, hR, hb⟩
    obtain ⟨Ay, cy, rfl⟩ := Kd.R_slice hR
    refine ⟨_, rfl, ?_⟩
    have HB3 := jA (below_then HB2.out HB2.out.size hb)
    have HA := jA (Kd.R_below HA.out hb)
    have HC := jA (Kd.R_lower hR (Nat.le_trans HW0.out.size HB2.out.size))
    clear hR hb
    refine hK.out _ _ ⟨pw_cell_below HB3.out (HB0.out.cell 0), pw_cell_below HB3.out (HB0.out.cell 3)⟩ (fun hHeld => ?_)
    clear hK K
    refine norm_ (a' := ?_) ?_ ?_; rotate_left; (show Act.put _ (some 41) _ = _; simp only [Act.put, Jq, Jr, Js]; rfl)
    refine Jp 6 42 (Jb 9 127) rfl rfl ?_
    refine one_ (i := 7) (N := some 3) (Jb 9 255) rfl rfl (by kernel_rfl) (by decide) (fun K hK => ?_)
    have hz := z59
    refine GDiffer.step_run (w' := World.alloc wC (.cells #[.slice none 0 0, .slice none 0 0, .slice none 0 0, .slice none 0 0, .slice none 0 0, .slice none 0 0] 59)) (v := .pointer (some ⟨World.heap wC |>.size, 0, none⟩)) rfl rfl (by go_simp) ?_
    clear hz
    have hs3 : Stays (World.alloc wC (.cells #[.slice none 0 0, .slice none 0 0, .slice none 0 0, .slice none 0 0, .slice none 0 0, .slice none 0 0] 59)) (World.heap wC).size #[.slice none 0 0, .slice none 0 0, .slice none 0 0, .slice none 0 0, .slice none 0 0, .slice none 0 0] 59 := heap_alloc_new wC _
    have hb := below_alloc (Below.refl _ wC) (.cells #[.slice none 0 0, .slice none 0 0, .slice none 0 0, .slice none 0 0, .slice none 0 0, .slice none 0 0] 59)
    have HB4 := jA (below_then HB3.out HB3.out.size hb)
    have hle : W0.heap.size ≤ (World.heap wC).size := HB3.out.size
    have HA := jA (Kd.R_below HA.out hb)
    have HC := jA (Kd.R_below HC.out hb)
    obtain ⟨W7, hW7⟩ : ∃ W7, W7 = World.alloc wC (.cells #[.slice none 0 0, .slice none 0 0, .slice none 0 0, .slice none 0 0, .slice none 0 0, .slice none 0 0] 59) := ⟨_, rfl⟩
    obtain ⟨g3, hg3⟩ : ∃ g3, g3 = (World.heap wC).size := ⟨_, rfl⟩
    rw [← hW7] at hs3 HB4 HA HC ⊢
    rw [← hg3] at hs3 hle ⊢
    have HS3 := jA hs3
    have HLE := jA hle
    have HG3 := jA (show gv < g3 by have := (Array.getElem?_eq_some_iff.1 HV0.out).1; omega)
    clear hs3 hb hle hW7 hg3
    refine hK.out _ _ ⟨pw_cell_below HB4.out (HB0.out.cell 0), pw_cell_below HB4.out (HB0.out.cell 3)⟩ (fun hHeld => ?_)
    clear hK K
    refine norm_ (a' := ?_) ?_ ?_; rotate_left; (show Act.put _ (some 3) _ = _; simp only [Act.put, Jq, Jr, Js]; rfl)
    refine last_ (i := 8) (N := none) (Jb 9 511) rfl rfl (by kernel_rfl) (by decide) (fun K hK => ?_)
    have hst := run_storeAt_mid (P := Try.prog) W7 g3 0 59 (gV (.slice Ax d.acts.length cx) (.slice none 0 0) (.slice Ay d.objs.length cy) (.slice none 0 0) (.slice none 0 0) (.slice none 0 0)) (Stays.there (cs := #[.slice none 0 0, .slice none 0 0, .slice none 0 0, .slice none 0 0, .slice none 0 0, .slice none 0 0]) HS3.out) i26 (by simp [gV, Value.oneCell'])
    refine GDiffer.step_skip (w' := World.setCells W7 g3 0 (gV (.slice Ax d.acts.length cx) (.slice none 0 0) (.slice Ay d.objs.length cy) (.slice none 0 0) (.slice none 0 0) (.slice none 0 0)).toList) rfl rfl (by first | (simp [execOp, Act.eval, hst]; done) | (show Sem.run Try.prog _ _ = _; simp only [execOp, Act.eval]; simp; rw [hst]; rfl)) ?_
    refine hK.out _ _ ?_
    clear hK K hst
    refine done_ (by kernel_rfl) ?_
    have hS3 := setCells_var (vs := (gV (.slice Ax d.acts.length cx) (.slice none 0 0) (.slice Ay d.objs.length cy) (.slice none 0 0) (.slice none 0 0) (.slice none 0 0))) HS3.out rfl
    have hbb := setCells_below HB4.out HLE.out (gV (.slice Ax d.acts.length cx) (.slice none 0 0) (.slice Ay d.objs.length cy) (.slice none 0 0) (.slice none 0 0) (.slice none 0 0)).toList
    have hRA := R_setCells HA.out HS3.out (by decide) (gV (.slice Ax d.acts.length cx) (.slice none 0 0) (.slice Ay d.objs.length cy) (.slice none 0 0) (.slice none 0 0) (.slice none 0 0)).toList
    have hRC := R_setCells HC.out HS3.out (by decide) (gV (.slice Ax d.acts.length cx) (.slice none 0 0) (.slice Ay d.objs.length cy) (.slice none 0 0) (.slice none 0 0) (.slice none 0 0)).toList
    have HF := jA (And.intro hS3 (And.intro hbb (And.intro hRA hRC)))
    clear hS3 hbb hRA hRC hHeld
    go_wp2
    go_meet
    exact ⟨g3, _, _, rfl, HG3, ⟨HF.out.1⟩, ⟨HF.out.2.2.1⟩, ⟨HF.out.2.2.2⟩, ⟨HF.out.2.1⟩⟩
   ·have hz := z59
    refine GDiffer.step_run (w' := World.alloc wA (.cells #[.slice none 0 0, .slice none 0 0, .slice none 0 0, .slice none 0 0, .slice none 0 0, .slice none 0 0] 59)) (v := .pointer (some ⟨World.heap wA |>.size, 0, none⟩)) rfl rfl (by go_simp) ?_
    clear hz
    have hs3 : Stays (World.alloc wA (.cells #[.slice none 0 0, .slice none 0 0, .slice none 0 0, .slice none 0 0, .slice none 0 0, .slice none 0 0] 59)) (World.heap wA).size #[.slice none 0 0, .slice none 0 0, .slice none 0 0, .slice none 0 0, .slice none 0 0, .slice none 0 0] 59 := heap_alloc_new wA _
    have hb := below_alloc (Below.refl _ wA) (.cells #[.slice none 0 0, .slice none 0 0, .slice none 0 0, .slice none 0 0, .slice none 0 0, .slice none 0 0] 59)
    have HB3 := jA (below_then HB2.out HB2.out.size hb)
    have hle : W0.heap.size ≤ (World.heap wA).size := HB2.out.size
    have HA := jA (Kd.R_below HA.out hb)
    obtain ⟨W7, hW7⟩ : ∃ W7, W7 = World.alloc wA (.cells #[.slice none 0 0, .slice none 0 0, .slice none 0 0, .slice none 0 0, .slice none 0 0, .slice none 0 0] 59) := ⟨_, rfl⟩
    obtain ⟨g3, hg3⟩ : ∃ g3, g3 = (World.heap wA).size := ⟨_, rfl⟩
    rw [← hW7] at hs3 HB3 HA ⊢
    rw [← hg3] at hs3 hle ⊢
    have HS3 := jA hs3
    have HLE := jA hle
    have HG3 := jA (show gv < g3 by have := (Array.getElem?_eq_some_iff.1 HV0.out).1; omega)
    clear hs3 hb hle hW7 hg3
    refine hK.out _ _ ⟨pw_cell_below HB3.out (HB0.out.cell 0), pw_cell_below HB3.out (HB0.out.cell 3)⟩ (fun hHeld => ?_)
    clear hK K
    refine norm_ (a' := ?_) ?_ ?_; rotate_left; (show Act.put _ (some 3) _ = _; simp only [Act.put, Jq, Jr, Js]; rfl)
    refine one_ (i := 5) (N := some 41) (Jb 9 191) rfl rfl (by kernel_rfl) (by decide) (fun K hK => ?_)
    refine goes_ Try.func32 (by kernel_rfl) rfl #[.slice A3 d.objs.length c3] (by rfl) rfl rfl (by (try simp only [List.map_toArray, List.map_cons, List.map_nil]); first | done | rfl) ?_
    refine (clone_calls A3 c3 d.objs _ ((HP.out.below (below_then HW0.out HW0.out.size HB3.out)).h3) (by omega)).mono ?_
    rintro e wC ⟨vv, rfl, hR, hb⟩
    obtain ⟨Ay, cy, rfl⟩ := Kd.R_slice hR
    refine ⟨_, rfl, ?_⟩
    have HB4 := jA (below_then HB3.out HB3.out.size hb)
    have HA := jA (Kd.R_below HA.out hb)
    have HS3 := jA (HS3.out.below hb)
    have HC := jA (Kd.R_lower hR (Nat.le_trans HW0.out.size HB3.out.size))
    clear hR hb
    refine hK.out _ _ ⟨pw_cell_below HB4.out (HB0.out.cell 0), pw_cell_below HB4.out (HB0.out.cell 3)⟩ (fun hHeld => ?_)
    clear hK K
    refine norm_ (a' := ?_) ?_ ?_; rotate_left; (show Act.put _ (some 41) _ = _; simp only [Act.put, Jq, Jr, Js]; rfl)
    refine Jp 6 42 (Jb 9 255) rfl rfl ?_
    refine last_ (i := 8) (N := none) (Jb 9 511) rfl rfl (by kernel_rfl) (by decide) (fun K hK => ?_)
    have hst := run_storeAt_mid (P := Try.prog) wC g3 0 59 (gV (.slice Ax d.acts.length cx) (.slice none 0 0) (.slice Ay d.objs.length cy) (.slice none 0 0) (.slice none 0 0) (.slice none 0 0)) (Stays.there (cs := #[.slice none 0 0, .slice none 0 0, .slice none 0 0, .slice none 0 0, .slice none 0 0, .slice none 0 0]) HS3.out) i26 (by simp [gV, Value.oneCell'])
    refine GDiffer.step_skip (w' := World.setCells wC g3 0 (gV (.slice Ax d.acts.length cx) (.slice none 0 0) (.slice Ay d.objs.length cy) (.slice none 0 0) (.slice none 0 0) (.slice none 0 0)).toList) rfl rfl (by first | (simp [execOp, Act.eval, hst]; done) | (show Sem.run Try.prog _ _ = _; simp only [execOp, Act.eval]; simp; rw [hst]; rfl)) ?_
    refine hK.out _ _ ?_
    clear hK K hst
    refine done_ (by kernel_rfl) ?_
    have hS3 := setCells_var (vs := (gV (.slice Ax d.acts.length cx) (.slice none 0 0) (.slice Ay d.objs.length cy) (.slice none 0 0) (.slice none 0 0) (.slice none 0 0))) HS3.out rfl
    have hbb := setCells_below HB4.out HLE.out (gV (.slice Ax d.acts.length cx) (.slice none 0 0) (.slice Ay d.objs.length cy) (.slice none 0 0) (.slice none 0 0) (.slice none 0 0)).toList
    have hRA := R_setCells HA.out HS3.out (by decide) (gV (.slice Ax d.acts.length cx) (.slice none 0 0) (.slice Ay d.objs.length cy) (.slice none 0 0) (.slice none 0 0) (.slice none 0 0)).toList
    have hRC := R_setCells HC.out HS3.out (by decide) (gV (.slice Ax d.acts.length cx) (.slice none 0 0) (.slice Ay d.objs.length cy) (.slice none 0 0) (.slice none 0 0) (.slice none 0 0)).toList
    have HF := jA (And.intro hS3 (And.intro hbb (And.intro hRA hRC)))
    clear hS3 hbb hRA hRC hHeld
    go_wp2
    go_meet
    exact ⟨g3, _, _, rfl, HG3, ⟨HF.out.1⟩, ⟨HF.out.2.2.1⟩, ⟨HF.out.2.2.2⟩, ⟨HF.out.2.1⟩⟩
  ·have hz := z59
   refine GDiffer.step_run (w' := World.alloc W1 (.cells #[.slice none 0 0, .slice none 0 0, .slice none 0 0, .slice none 0 0, .slice none 0 0, .slice none 0 0] 59)) (v := .pointer (some ⟨World.heap W1 |>.size, 0, none⟩)) rfl rfl (by go_simp) ?_
   clear hz
   have hs3 : Stays (World.alloc W1 (.cells #[.slice none 0 0, .slice none 0 0, .slice none 0 0, .slice none 0 0, .slice none 0 0, .slice none 0 0] 59)) (World.heap W1).size #[.slice none 0 0, .slice none 0 0, .slice none 0 0, .slice none 0 0, .slice none 0 0, .slice none 0 0] 59 := heap_alloc_new W1 _
   have hb := below_alloc (Below.refl _ W1) (.cells #[.slice none 0 0, .slice none 0 0, .slice none 0 0, .slice none 0 0, .slice none 0 0, .slice none 0 0] 59)
   have HB2 := jA (below_then HB1.out HB1.out.size hb)
   have hle : W0.heap.size ≤ (World.heap W1).size := HB1.out.size
   obtain ⟨W7, hW7⟩ : ∃ W7, W7 = World.alloc W1 (.cells #[.slice none 0 0, .slice none 0 0, .slice none 0 0, .slice none 0 0, .slice none 0 0, .slice none 0 0] 59) := ⟨_, rfl⟩
   obtain ⟨g3, hg3⟩ : ∃ g3, g3 = (World.heap W1).size := ⟨_, rfl⟩
   rw [← hW7] at hs3 HB2 ⊢
   rw [← hg3] at hs3 hle ⊢
   have HS3 := jA hs3
   have HLE := jA hle
   have HG3 := jA (show gv < g3 by have := (Array.getElem?_eq_some_iff.1 HV0.out).1; omega)
   clear hs3 hb hle hW7 hg3
   refine hK.out _ _ ⟨pw_cell_below HB2.out (HB0.out.cell 0), pw_cell_below HB2.out (HB0.out.cell 3)⟩ (fun hHeld => ?_)
   clear hK K
   refine norm_ (a' := ?_) ?_ ?_; rotate_left; (show Act.put _ (some 3) _ = _; simp only [Act.put, Jq, Jr, Js]; rfl)
   refine one_ (i := 2) (N := some 38) (Jb 9 159) rfl rfl (by kernel_rfl) (by decide) (fun K hK => ?_)
   refine goes_ Try.func32 (by kernel_rfl) rfl #[.slice A0 d.acts.length c0] (by rfl) rfl rfl (by (try simp only [List.map_toArray, List.map_cons, List.map_nil]); first | done | rfl) ?_
   refine (clone_calls A0 c0 d.acts _ ((HP.out.below (below_then HW0.out HW0.out.size HB2.out)).h0) (by omega)).mono ?_
   rintro e wA ⟨vv, rfl, hR, hb⟩
   obtain ⟨Ax, cx, rfl⟩ := Kd.R_slice hR
   refine ⟨_, rfl, ?_⟩
   have HB3 := jA (below_then HB2.out HB2.out.size hb)
   have HS3 := jA (HS3.out.below hb)
   have HA := jA (Kd.R_lower hR (Nat.le_trans HW0.out.size HB2.out.size))
   clear hR hb
   refine hK.out _ _ ⟨pw_cell_below HB3.out (HB0.out.cell 0), pw_cell_below HB3.out (HB0.out.cell 3)⟩ (fun hHeld => ?_)
   clear hK K
   refine norm_ (a' := ?_) ?_ ?_; rotate_left; (show Act.put _ (some 38) _ = _; simp only [Act.put, Jq, Jr, Js]; rfl)
   refine one_ (i := 5) (N := some 41) (Jb 9 191) rfl rfl (by kernel_rfl) (by decide) (fun K hK => ?_)
   refine goes_ Try.func32 (by kernel_rfl) rfl #[.slice A3 d.objs.length c3] (by rfl) rfl rfl (by (try simp only [List.map_toArray, List.map_cons, List.map_nil]); first | done | rfl) ?_
   refine (clone_calls A3 c3 d.objs _ ((HP.out.below (below_then HW0.out HW0.out.size HB3.out)).h3) (by omega)).mono ?_
   rintro e wC ⟨vv, rfl, hR, hb⟩
   obtain ⟨Ay, cy, rfl⟩ := Kd.R_slice hR
   refine ⟨_, rfl, ?_⟩
   have HB4 := jA (below_then HB3.out HB3.out.size hb)
   have HS3 := jA (HS3.out.below hb)
   have HA := jA (Kd.R_below HA.out hb)
   have HC := jA (Kd.R_lower hR (Nat.le_trans HW0.out.size HB3.out.size))
   clear hR hb
   refine hK.out _ _ ⟨pw_cell_below HB4.out (HB0.out.cell 0), pw_cell_below HB4.out (HB0.out.cell 3)⟩ (fun hHeld => ?_)
   clear hK K
   refine norm_ (a' := ?_) ?_ ?_; rotate_left; (show Act.put _ (some 41) _ = _; simp only [Act.put, Jq, Jr, Js]; rfl)
   refine Jp 6 42 (Jb 9 255) rfl rfl ?_
   refine last_ (i := 8) (N := none) (Jb 9 511) rfl rfl (by kernel_rfl) (by decide) (fun K hK => ?_)
   have hst := run_storeAt_mid (P := Try.prog) wC g3 0 59 (gV (.slice Ax d.acts.length cx) (.slice none 0 0) (.slice Ay d.objs.length cy) (.slice none 0 0) (.slice none 0 0) (.slice none 0 0)) (Stays.there (cs := #[.slice none 0 0, .slice none 0 0, .slice none 0 0, .slice none 0 0, .slice none 0 0, .slice none 0 0]) HS3.out) i26 (by simp [gV, Value.oneCell'])
   refine GDiffer.step_skip (w' := World.setCells wC g3 0 (gV (.slice Ax d.acts.length cx) (.slice none 0 0) (.slice Ay d.objs.length cy) (.slice none 0 0) (.slice none 0 0) (.slice none 0 0)).toList) rfl rfl (by first | (simp [execOp, Act.eval, hst]; done) | (show Sem.run Try.prog _ _ = _; simp only [execOp, Act.eval]; simp; rw [hst]; rfl)) ?_
   refine hK.out _ _ ?_
   clear hK K hst
   refine done_ (by kernel_rfl) ?_
   have hS3 := setCells_var (vs := (gV (.slice Ax d.acts.length cx) (.slice none 0 0) (.slice Ay d.objs.length cy) (.slice none 0 0) (.slice none 0 0) (.slice none 0 0))) HS3.out rfl
   have hbb := setCells_below HB4.out HLE.out (gV (.slice Ax d.acts.length cx) (.slice none 0 0) (.slice Ay d.objs.length cy) (.slice none 0 0) (.slice none 0 0) (.slice none 0 0)).toList
   have hRA := R_setCells HA.out HS3.out (by decide) (gV (.slice Ax d.acts.length cx) (.slice none 0 0) (.slice Ay d.objs.length cy) (.slice none 0 0) (.slice none 0 0) (.slice none 0 0)).toList
   have hRC := R_setCells HC.out HS3.out (by decide) (gV (.slice Ax d.acts.length cx) (.slice none 0 0) (.slice Ay d.objs.length cy) (.slice none 0 0) (.slice none 0 0) (.slice none 0 0)).toList
   have HF := jA (And.intro hS3 (And.intro hbb (And.intro hRA hRC)))
   clear hS3 hbb hRA hRC hHeld
   go_wp2
   go_meet
   exact ⟨g3, _, _, rfl, HG3, ⟨HF.out.1⟩, ⟨HF.out.2.2.1⟩, ⟨HF.out.2.2.2⟩, ⟨HF.out.2.1⟩⟩
 case rest =>
  obtain ⟨g3, u0, u2, rfl, HG3, HS3, HU0, HU2, HWX⟩ := hcut
  obtain ⟨wx, hwx⟩ : ∃ wx : World, wx = wc := ⟨_, rfl⟩
  subst hwx
  have HBX := jA (below_then HW0.out HW0.out.size HWX.out)
  have HB1 := jA (HB0.out.below HWX.out)
  have HV1 := jA (HV0.out.below HWX.out)
  go_upto_region 5 with (first | ((with_reducible refine gate_dst (N := 43) rfl ?_); refine wpList_load_blk rfl 31 (.tmp 1) rfl w.heap.size ?hx #[.slice A0 d.acts.length c0, .slice A1 d.subs.length c1, .slice A2 d.roles.length c2, .slice A3 d.objs.length c3, .slice A4 d.grps.length c4, .slice A5 d.mem.length c5, .slice A6 d.inh.length c6, .slice A7 d.par.length c7, .slice A8 d.wit.length c8, .slice A9 d.rules.length c9, .slice A10 d.exc.length c10] 31 HB1.out _ Try.underlying31 rfl i39 ?_; (case hx => rfl)) | (go_at_call 33; (refine (masks_calls (Pol.mk d A0 c0 A1 c1 A2 c2 A3 c3 A4 c4 A5 c5 A6 c6 A7 c7 A8 c8 A9 c9 A10 c10) _ (HP.out.below HBX.out) HD.out hs ho ha).mono ?_); rintro e w2 ⟨ga, f, nf, L, rfl, hM, hA, hsp, hge, hb⟩; have HB2 := jA (HB1.out.below hb); have HV2 := jA (HV1.out.below hb); have HS2 := jA (HS3.out.below hb); have HU0' := jA (Kd.R_below HU0.out hb); have HU2' := jA (Kd.R_below HU2.out hb); have HM := jA hM; have HAL := jA hA; have HSP := jA hsp; have HW2 := jA (below_then HBX.out HBX.out.size hb); clear hM hA hsp hge hb))
  clear HU0 HU2 HS3 HV1 HB1 HBX HWX
  obtain ⟨n, hn⟩ : ∃ n, n = d.subs.length := ⟨_, rfl⟩
  have e1 := HB2.out.cell 1
  have e3 := HB2.out.cell 3
  simp only [Jt, Ju, Jv] at e1 e3
  have hmk := make_lines d.subs.length hs
  have hmk' := make_lines d.objs.length ho
  clear hn n
  go_cut [5, 6] (fun v5 v6 wy => ∃ gr gc, v5 = .slice (some ⟨gr, 0, none⟩) d.subs.length d.subs.length ∧ v6 = .slice (some ⟨gc, 0, none⟩) d.objs.length d.objs.length ∧ Aside0 (gr ≠ gc) ∧ Aside0 (w2.heap.size ≤ gr) ∧ Aside0 (w2.heap.size ≤ gc) ∧ Aside0 (Blk wy gr d.subs.length (fun _ _ => 0)) ∧ Aside0 (Blk wy gc d.objs.length (fun _ _ => 0)) ∧ Aside0 (Below w2.heap.size w2 wy))
  case first =>
   have hltw : w.heap.size < w2.heap.size := (Array.getElem?_eq_some_iff.1 HB2.out).1
   have x1 := fun (o : Obj) => (HB2.out.below (below_alloc (Below.refl _ w2) o)).cell 1
   have x3 := fun (o : Obj) => (HB2.out.below (below_alloc (Below.refl _ w2) o)).cell 3
   simp only [Jt, Ju, Jv] at x1 x3
   go_region
   all_goals (go_wp2_with fail; go_meet)
   all_goals first
    | exact ⟨_, _, rfl, rfl, ⟨by omega⟩, ⟨Nat.le_refl _⟩, ⟨Nat.le_succ _⟩, ⟨(made_two w2 d.subs.length d.objs.length).1⟩, ⟨(made_two w2 d.subs.length d.objs.length).2.1⟩, ⟨(made_two w2 d.subs.length d.objs.length).2.2⟩⟩
    | exact ⟨_, _, rfl, rfl, ⟨by omega⟩, ⟨Nat.le_succ _⟩, ⟨Nat.le_refl _⟩, ⟨(made_two w2 d.objs.length d.subs.length).2.1⟩, ⟨(made_two w2 d.objs.length d.subs.length).1⟩, ⟨(made_two w2 d.objs.length d.subs.length).2.2⟩⟩
  case rest =>
   obtain ⟨gr, gc, rfl, rfl, HNE, HGR, HGC, HRR, HCC, HBY⟩ := hcut
   obtain ⟨WB, hWB⟩ : ∃ WB : World, WB = wc := ⟨_, rfl⟩
   subst hWB
   clear hmk hmk' e1 e3
   have Zx := (Array.getElem?_eq_some_iff.1 HS2.out).1
   have HN1 := jA (show gr ≠ g3 by have := HGR.out; omega)
   have HN2 := jA (show gc ≠ g3 by have := HGC.out; omega)
   have Zm := jA (show w.heap.size < w2.heap.size from (Array.getElem?_eq_some_iff.1 HB2.out).1)
   have Zn := jA (show ¬ S3 g3 gr gc w.heap.size by have h1 := HG3.out; have h2 := HGV.out; have h3 := HGR.out; have h4 := HGC.out; have h5 := Zm.out; rintro (e | e | e) <;> omega)
   have HLTV := jA (show gv < w2.heap.size from (Array.getElem?_eq_some_iff.1 HV2.out).1)
   have Zy := jA (show ¬ S3 g3 gr gc gv by have h1 := HG3.out; have h3 := HGR.out; have h4 := HGC.out; have h5 := HLTV.out; rintro (e | e | e) <;> omega)
   have HNGA := jA (show ¬ S3 g3 gr gc ga by have h1 := HM.out.lt; have h3 := HGR.out; have h4 := HGC.out; have h5 := map_ne HM.out HS2.out; rintro (e | e | e) <;> omega)
   have HB3 := jA (HB2.out.below HBY.out)
   have HV3 := jA (HV2.out.below HBY.out)
   have HM3 := jA (HM.out.below HBY.out)
   have HW3 := jA (below_then HW2.out HW2.out.size HBY.out)
   have HU0b := jA (Kd.R_mono (Kd.R_bound (Kd.R_below HU0'.out HBY.out)) (ok' := fun b => ¬ S3 g3 gr gc b) (fun k hk e => by
    obtain ⟨-, -, -, q, hq, cells, hc⟩ := hk
    have hq9 : q = 9 := by simpa [Kd.string, Kd.scalar] using hq
    subst hq9
    rcases e with e | e | e
    ·subst e; have h := HS2.out.below HBY.out; rw [show WB.heap[k]? = _ from h] at hc; cases hc
    ·subst e; obtain ⟨c, h, _⟩ := HRR.out; rw [h] at hc; cases hc
    ·subst e; obtain ⟨c, h, _⟩ := HCC.out; rw [h] at hc; cases hc))
   have HU2b := jA (Kd.R_mono (Kd.R_bound (Kd.R_below HU2'.out HBY.out)) (ok' := fun b => ¬ S3 g3 gr gc b) (fun k hk e => by
    obtain ⟨-, -, -, q, hq, cells, hc⟩ := hk
    have hq9 : q = 9 := by simpa [Kd.string, Kd.scalar] using hq
    subst hq9
    rcases e with e | e | e
    ·subst e; have h := HS2.out.below HBY.out; rw [show WB.heap[k]? = _ from h] at hc; cases hc
    ·subst e; obtain ⟨c, h, _⟩ := HRR.out; rw [h] at hc; cases hc
    ·subst e; obtain ⟨c, h, _⟩ := HCC.out; rw [h] at hc; cases hc))
   have HLP := jA (show Lp d g3 gr gc WB WB u0 (.slice none 0 0) u2 [] 0 0 from ⟨Same.refl _ _, HS2.out.below HBY.out, Kd.R_nil _ _ _ _ _, HRR.out.congr fun a b _ _ => (prt_zero _ a b).symm, HCC.out.congr fun b a _ _ => (prt_zero _ a b).symm⟩)
   clear HU0' HU2' HM HB2 HV2 HS2 HW2 HRR HCC Zx
   have e1 := HB3.out.cell 1
   simp only [Jt, Ju, Jv] at e1
   go_wp2
   clear e1
   go_loopw [56] (fun u56 wr => ∃ (i : Nat) (v1 : Value), i ≤ d.subs.length ∧ u56 = .int .i64 i ∧ Aside0 (Lp d g3 gr gc WB wr u0 v1 u2 ((d.subs.map (·.f0)).take i) i 0)) (fun u56 _ => d.subs.length - (intOf u56).toNat)
   case atStart => exact ⟨0, _, Nat.zero_le _, rfl, HLP⟩
   case round =>
    obtain ⟨i, v1, hi, rfl, HL⟩ := hrel
    have hS3w : ∀ k, S3 g3 gr gc k → w.heap.size ≤ k := fun k hk => by
     have h1 := HG3.out; have h2 := HGV.out; have h3 := HGR.out; have h4 := HGC.out; have h5 := Zm.out
     rcases hk with e | e | e <;> omega
    have HSW := jA hS3w
    clear hS3w
    have hpin := HP.out.below (HL.out.same.below HW3.out HSW.out)
    by_cases hlt : i < d.subs.length
    ·obtain ⟨ad, ea, hx0, hx1⟩ := at_T70 hpin.h1 (i : Int) (by omega) (by simp only []; omega)
     have hget : rd_T70 d.subs (i : Int) = d.subs[i] := by simp [rd_T70, hlt]
     simp only [hget, Int.toNat_natCast] at hx0 hx1
     have ea : A1 = some ad := ea
     subst ea
     have htk : (d.subs.map (·.f0)).take (i + 1) = (d.subs.map (·.f0)).take i ++ [d.subs[i].f0] := by
      have h := List.take_succ_eq_append_getElem (l := d.subs.map (·.f0)) (i := i) (by simpa using hlt)
      simpa using h
     have hnm : (d.subs.map (·.f0)).getD i ⟨#[]⟩ = d.subs[i].f0 := by simp [hlt]
     have hin : d.subs[i] ∈ d.subs := List.getElem_mem hlt
     have hlen : ((d.subs.map (·.f0)).take i).length = i := by rw [List.length_take, List.length_map]; omega
     obtain ⟨x, hxx⟩ : ∃ x, x = d.subs[i] := ⟨_, rfl⟩
     rw [← hxx] at hx0 hx1 htk hin hnm
     have HTK := jA htk
     have HIN := jA hin
     have HNM := jA hnm
     have HLIM := jA (show (((d.subs.map (·.f0)).take i).length + 1) * 16 ≤ 140737488355328 by omega)
     have c0' : (i : Int) < d.subs.length := by omega
     have hcw : ∀ (j : Nat) (v : Value), ([.string x.f0, .float .f64 x.f1] : List Value)[j]? = some v → wr.cell? ((ad.add (i * 2)).add j) = some v := by
      intro j v hj
      have hj2 : j < 2 := (List.getElem?_eq_some_iff.1 hj).1
      have : j = 0 ∨ j = 1 := by omega
      rcases this with rfl | rfl
      ·obtain rfl : Value.string x.f0 = v := by simpa using hj
       rw [Addr.add_zero']; exact hx0
      ·obtain rfl : Value.float .f64 x.f1 = v := by simpa using hj
       rw [add_add, add_field _ _ 1 (by omega)]; exact hx1
     have HCW := jA hcw
     obtain ⟨ns, hns⟩ : ∃ ns, ns = (d.subs.map (·.f0)).take i := ⟨_, rfl⟩
     rw [← hns] at HTK HL HLIM
     have hz := MPol.z70
     clear hx0 hx1 hget htk hin hxx hcw hpin hnm hlen hns
     go_upto_region 9 with (first | ((with_reducible refine gate_dst (N := 60) rfl ?_); refine wpList_load_at rfl 70 (.tmp 59) rfl (ad.add (i * 2)) ?hx [.string x.f0, .float .f64 x.f1] HCW.out _ Try.underlying70 rfl i54 ?_; (case hx => rfl)) | ((with_reducible refine gate_store (t := 70) (p := 8) (v := .tmp 60) rfl ?_); refine wpList_store_var rfl 70 (.tmp 8) (.tmp 60) rfl wr.heap.size #[.string x.f0, .float .f64 x.f1] ?hx ?hy (cs := #[.string ⟨#[]⟩, .float .f64 0]) (t := 70) (heap_alloc_new wr _) rfl i54 (by simp [Value.oneCell']) ?_; (case hx => rfl); (case hy => rfl)))
     (try simp only [Act.put])
     clear hz
     have hb2 : Below wr.heap.size wr ((wr.alloc (.cells #[.string ⟨#[]⟩, .float .f64 0] 70)).setCells wr.heap.size 0 [.string x.f0, .float .f64 x.f1]) := setCells_below (below_alloc (Below.refl _ _) _) (Nat.le_refl _) _
     have hS2 : Stays ((wr.alloc (.cells #[.string ⟨#[]⟩, .float .f64 0] 70)).setCells wr.heap.size 0 [.string x.f0, .float .f64 x.f1]) wr.heap.size #[.string x.f0, .float .f64 x.f1] 70 := setCells_var (vs := #[.string x.f0, .float .f64 x.f1]) (heap_alloc_new wr _) rfl
     have hL2 := HL.out.move hb2
     obtain ⟨W2, hW2⟩ : ∃ W2, W2 = ((wr.alloc (.cells #[.string ⟨#[]⟩, .float .f64 0] 70)).setCells wr.heap.size 0 [.string x.f0, .float .f64 x.f1]) := ⟨_, rfl⟩
     obtain ⟨g8, hg8⟩ : ∃ g8, g8 = wr.heap.size := ⟨_, rfl⟩
     have hg8s : WB.heap.size ≤ g8 := by rw [hg8]; exact HL.out.same.size
     rw [← hW2] at hS2 hL2 ⊢
     rw [← hg8] at hS2 ⊢
     have HS8 := jA hS2
     have HL2 := jA hL2
     have HG8 := jA hg8s
     have x8 := hS2.cell 0
     simp only [List.getElem?_toArray, List.getElem?_cons_zero] at x8
     have x3 := hL2.g.cell 1
     simp only [gV, Jt, Ju, Jv] at x3
     clear hb2 hS2 hL2 hW2 hg8 hg8s HL
     go_upto_region 10 with (first | ((with_reducible refine gate_builtin (b := .append) (xs := #[.tmp 62, .tmp 65]) rfl ?_); at_builtin; refine Kd.R_append Kd.string (w0 := W2) WB.heap.size rfl (.tmp 62) (.tmp 65) 25 9 (.string ⟨#[]⟩) 16 rfl Try.underlying25 info9 rfl (by decide) (by decide) v1 ns x.f0 [.string x.f0] (fun _ => True) (fun _ => False) rfl rfl rfl (fun _ hk => hk.elim) (fun _ _ => trivial) HL2.out.r1 (Below.refl _ _) HL2.out.same.size HLIM.out ?_; intro v9 w9 hR9 hB9 hg9 Zf; have HL9 := jA (HL2.out.app hR9 hg9 HN1.out HN2.out); have HS9 := jA (show Stays w9 g8 #[.string x.f0, .float .f64 x.f1] 70 from (hg9.block _ (Array.getElem?_eq_some_iff.1 HS8.out).1 (Kd.R_ne HL2.out.r1 HS8.out (by decide))).trans HS8.out); have hG9 : Stays w9 g3 (gV u0 v1 u2 (.slice none 0 0) (.slice none 0 0) (.slice none 0 0)) 59 := (hg9.block _ (Array.getElem?_eq_some_iff.1 HL2.out.g).1 (Kd.R_ne HL2.out.r1 HL2.out.g (by decide))).trans HL2.out.g; have x9 := hG9.cell 1; simp only [gV, Jt, Ju, Jv] at x9; have f9 : w9.frozen? ⟨g3, 1, none⟩ = false := frozen_of_row _ _ _ _ _ hG9; obtain ⟨A9x, c9x, e9⟩ := Kd.R_slice hR9; obtain ⟨nn, hnn⟩ : ∃ nn, nn = (ns ++ [x.f0]).length := ⟨_, rfl⟩; rw [← hnn] at e9; subst e9; clear hR9 hB9 hg9 Zf hG9 hnn))
     clear x8 x3 x9 f9
     have HN8 := jA (show g8 ≠ g3 by have h1 := HG8.out; have h2 := (Array.getElem?_eq_some_iff.1 HLP.out.g).1; omega)
     have Zc := stays_far HS9.out (a := ⟨g3, 1, none⟩) (by exact HN8.out) (.slice A9x nn c9x)
     have Zb := HL9.out
     rw [← HTK.out] at Zb
     obtain ⟨v10, Zo⟩ : ∃ v10, v10 = Value.slice A9x nn c9x := ⟨_, rfl⟩
     rw [← Zo] at Zb Zc ⊢
     obtain ⟨W10, Zp⟩ : ∃ W10, W10 = w9.setCell ⟨g3, 1, none⟩ v10 := ⟨_, rfl⟩
     rw [← Zp] at Zb Zc ⊢
     have Zq := jA Zb
     have Zz := jA Zc
     clear Zb Zc Zo Zp HL9 HS9 HS8 HL2 HLIM HTK
     have e3 := (Zq.out.same.stays HB3.out Zn.out).cell 3
     simp only [Jt, Ju, Jv] at e3
     go_wp2
     clear e3
     go_loopw [71] (fun u71 wr => ∃ j : Nat, j ≤ d.objs.length ∧ u71 = .int .i64 j ∧ Aside0 (Lp d g3 gr gc WB wr u0 v10 u2 ((d.subs.map (·.f0)).take (i + 1)) i j) ∧ Aside0 (Stays wr g8 #[.string x.f0, .float .f64 x.f1] 70)) (fun u71 _ => d.objs.length - (intOf u71).toNat)
     case atStart => exact ⟨0, Nat.zero_le _, rfl, Zq, Zz⟩
     case round =>
      obtain ⟨j, hj, rfl, HLj, HSj⟩ := hrel
      have hpin := HP.out.below (HLj.out.same.below HW3.out HSW.out)
      by_cases hltj : j < d.objs.length
      ·obtain ⟨ado, eo, hxo⟩ := Kd.at_string hpin.h3 (j : Int) (by omega) (by simp only []; omega)
       have eo : A3 = some ado := eo
       subst eo
       have hget : rdOf ByteArray.empty d.objs (j : Int) = d.objs[j] := by simp [rdOf, hltj]
       simp only [hget, Int.toNat_natCast] at hxo
       have hom : d.objs.getD j ⟨#[]⟩ = d.objs[j] := by simp [hltj]
       have hoin : d.objs[j] ∈ d.objs := List.getElem_mem hltj
       obtain ⟨o, hoo⟩ : ∃ o, o = d.objs[j] := ⟨_, rfl⟩
       rw [← hoo] at hxo hom hoin
       have hval := alls_mask HAL.out HSP.out ha ⟨x, HIN.out, rfl⟩ o
       have hq : fill d.objs.length (matD d) i j = ((maskD d x.f0 o : Nat) : Int) := by
        unfold fill matD
        rw [if_pos hltj, HNM.out, hom]
       have hlk := pair_look (HLj.out.same.map HM3.out HNGA.out) (p := (x.f0, o)) ⟨HD.out.subs x HIN.out, HD.out.objs o hoin⟩
       rw [hval] at hlk
       simp only [] at hlk
       obtain ⟨q, hqe⟩ : ∃ q : Int, q = ((maskD d x.f0 o : Nat) : Int) := ⟨_, rfl⟩
       rw [← hqe] at hlk hq
       have HQ := jA hq
       have x8 := HSj.out.cell 0
       simp only [List.getElem?_toArray, List.getElem?_cons_zero] at x8
       have c0'' : (j : Int) < d.objs.length := by omega
       clear hpin hget hom hoin hoo hval hqe hq
       go_upto_region 14 with fail
       clear hlk x8 hxo
       have n1 : j < 64 := by omega
       have n2 : i < 64 := by omega
       have hc1 := HLj.out.rows.cell (i := i) (j := j) hlt n1
       have hc2 := HLj.out.cols.cell (i := j) (j := i) hltj n2
       have hf1 := HLj.out.rows.frozen (i * 64 + j)
       have hf2 := HLj.out.cols.frozen (j * 64 + i)
       have hne := HNE.out
       go_region
       go_wp2
       go_roundw
       case rel => exact ⟨j + 1, by omega, by go_num, ⟨HLj.out.put HNE.out HN1.out HN2.out n2 n1 q HQ.out⟩, ⟨stays_far (stays_far HSj.out (by show g8 ≠ gr; have h1 := HG8.out; have h2 := HLP.out.rows.lt; omega) _) (by show g8 ≠ gc; have h1 := HG8.out; have h2 := HLP.out.cols.lt; omega) _⟩⟩
       case measure => simp [intOf]; omega
      ·have hjj : j = d.objs.length := by omega
       subst hjj
       clear hpin
       go_wp2
       go_roundw
       case rel => exact ⟨i + 1, v10, by omega, by go_num, ⟨HLj.out.nextRow⟩⟩
       case measure => simp [intOf]; omega
    ·have hii : i = d.subs.length := by omega
     subst hii
     have hl := HL.out
     rw [List.take_of_length_le (by simp)] at hl
     have HLF := jA hl
     clear hl HL hpin
     obtain ⟨w5, hw5⟩ : ∃ w5, w5 = wr := ⟨_, rfl⟩
     subst hw5
     have hRows : Blk w5 gr d.subs.length (fill d.objs.length (matD d)) := HLF.out.rows.congr fun a b h _ => prt_all _ _ a b h
     have hCols : Blk w5 gc d.objs.length (fill d.subs.length (fun j i => matD d i j)) := HLF.out.cols.congr fun b a h _ => prt_cols _ _ _ b a h
     have HRW := jA hRows
     have HCL := jA hCols
     have HW5 := jA (HLF.out.same.below HW3.out HSW.out)
     have HW3' := jA HW3.out.size
     have HV5 := jA (HLF.out.same.stays HV3.out Zy.out)
     have HG5 := jA HLF.out.g
     have HU0c := jA (HLF.out.same.toR HU0b.out (fun _ h => h))
     have HU2c := jA (HLF.out.same.toR HU2b.out (fun _ h => h))
     have HU1c := jA HLF.out.r1
     have HRC := jA (Blk.C hRows (by omega))
     have HRK := jA (linesOf_ok (n := d.subs.length) (F := fill d.objs.length (matD d)) (fun a b _ _ => fill_u16 (matD_u16 d ha) a b))
     clear hRows hCols HLF HLP HB3 HV3 HU0b HU2b HW3 HBY HSW HM3 HAL HSP HGC HNGA Zn
     go_upto_region 19 with (first | (go_at_call 34; ((with_reducible refine (classes_to (some ⟨gr, 0, none⟩) d.subs.length (linesOf d.subs.length (fill d.objs.length (matD d))) _ d.subs.length (linesOf_length _ _) HRC.out HRK.out hs).mono ?_)); rintro e w6 ⟨v4, v5, rfl, hr4, hr5, hb⟩; obtain ⟨A4', c4', e4⟩ := Kd.R_slice hr4; obtain ⟨A5', c5', e5⟩ := Kd.R_slice hr5; obtain ⟨n4, hn4⟩ : ∃ n4, n4 = (numsOf (linesOf d.subs.length (fill d.objs.length (matD d)))).length := ⟨_, rfl⟩; obtain ⟨n5, hn5⟩ : ∃ n5, n5 = (firstsOf (linesOf d.subs.length (fill d.objs.length (matD d)))).length := ⟨_, rfl⟩; rw [← hn4] at e4; rw [← hn5] at e5; subst e4; subst e5; have hG6 := HG5.out.below hb; have x9 := hG6.cell 3; simp only [gV, Jt, Ju, Jv] at x9; have f9 : w6.frozen? ⟨g3, 3, none⟩ = false := frozen_of_row _ _ _ _ _ hG6; have HG6 := jA hG6; have HR4 := jA hr4; have HR5 := jA hr5; have HB6 := jA hb; have HN5 := jA hn5; clear hr4 hr5 hb hG6 hn4 hn5))
     clear x9 f9
     have hg6 := stays_set HG6.out 3 (.slice A4' n4 c4')
     have hg6 : Stays (w6.setCell ⟨g3, 3, none⟩ (.slice A4' n4 c4')) g3 (gV u0 v1 u2 (.slice A4' n4 c4') (.slice none 0 0) (.slice none 0 0)) 59 := hg6
     have hs6 := (Same.of_below (S := S1 g3) HB6.out).set (a := ⟨g3, 3, none⟩) (.inl rfl) (.slice A4' n4 c4')
     have hr4 := R_set HR4.out HG6.out (by decide) 3 (.slice A4' n4 c4')
     have hr5 := R_set HR5.out HG6.out (by decide) 3 (.slice A4' n4 c4')
     obtain ⟨v4, hv4⟩ : ∃ v4, v4 = Value.slice A4' n4 c4' := ⟨_, rfl⟩
     rw [← hv4] at hg6 hs6 hr4 hr5 ⊢
     obtain ⟨W6, hW6⟩ : ∃ W6, W6 = w6.setCell ⟨g3, 3, none⟩ v4 := ⟨_, rfl⟩
     rw [← hW6] at hg6 hs6 hr4 hr5 ⊢
     have HG6 := jA hg6
     have HS6 := jA hs6
     have HR4 := jA hr4
     have HR5 := jA hr5
     have hCB := hs6.blk HCL.out (by have h := HN2.out; exact h)
     have HRC := jA (Blk.C hCB (by omega))
     have HRK := jA (linesOf_ok (n := d.objs.length) (F := fill d.subs.length (fun j i => matD d i j)) (fun a b _ _ => fill_u16 (fun j i => matD_u16 d ha i j) a b))
     clear hg6 hs6 hr4 hr5 hv4 hW6 hCB HB6
     go_upto_region 20 with (first | (go_at_call 34; ((with_reducible refine (classes_to (some ⟨gc, 0, none⟩) d.objs.length (linesOf d.objs.length (fill d.subs.length (fun j i => matD d i j))) _ d.objs.length (linesOf_length _ _) HRC.out HRK.out ho).mono ?_)); rintro e w7 ⟨v6, v7, rfl, hr6, hr7, hb⟩; obtain ⟨A6', c6', e6⟩ := Kd.R_slice hr6; obtain ⟨A7', c7', e7⟩ := Kd.R_slice hr7; obtain ⟨n6, hn6⟩ : ∃ n6, n6 = (numsOf (linesOf d.objs.length (fill d.subs.length (fun j i => matD d i j)))).length := ⟨_, rfl⟩; obtain ⟨n7, hn7⟩ : ∃ n7, n7 = (firstsOf (linesOf d.objs.length (fill d.subs.length (fun j i => matD d i j)))).length := ⟨_, rfl⟩; rw [← hn6] at e6; rw [← hn7] at e7; subst e6; subst e7; have hG7 := HG6.out.below hb; have x9 := hG7.cell 4; simp only [gV, Jt, Ju, Jv] at x9; have f9 : w7.frozen? ⟨g3, 4, none⟩ = false := frozen_of_row _ _ _ _ _ hG7; have HG7 := jA hG7; have HR6 := jA hr6; have HR7 := jA hr7; have HB7 := jA hb; have HN7 := jA hn7; clear hr6 hr7 hb hG7 hn6 hn7))
     clear x9 f9
     have hg7 := stays_set HG7.out 4 (.slice A6' n6 c6')
     have hg7 : Stays (w7.setCell ⟨g3, 4, none⟩ (.slice A6' n6 c6')) g3 (gV u0 v1 u2 v4 (.slice A6' n6 c6') (.slice none 0 0)) 59 := hg7
     have hs7 := (HS6.out.move HB7.out).set (a := ⟨g3, 4, none⟩) (.inl rfl) (.slice A6' n6 c6')
     have hr6 := R_set HR6.out HG7.out (by decide) 4 (.slice A6' n6 c6')
     have hr7 := R_set HR7.out HG7.out (by decide) 4 (.slice A6' n6 c6')
     have hr4 := R_set (Kd.R_below HR4.out HB7.out) HG7.out (by decide) 4 (.slice A6' n6 c6')
     have hr5 := R_set (Kd.R_below HR5.out HB7.out) HG7.out (by decide) 4 (.slice A6' n6 c6')
     have hr0 := hs7.toR (offG HU0c.out HG5.out (by decide)) (fun _ h => h)
     have hr1 := hs7.toR (offG HU1c.out HG5.out (by decide)) (fun _ h => h)
     have hr2 := hs7.toR (offG HU2c.out HG5.out (by decide)) (fun _ h => h)
     have hv7 := hs7.stays HV5.out (by have h1 := HG3.out; intro e; have e : gv = g3 := e; omega)
     have hrr := hs7.blk HRW.out (by have h := HN1.out; exact h)
     have hb7 := hs7.below HW5.out (fun k hk => by have h1 := HG3.out; have h2 := HGV.out; have hk : k = g3 := hk; omega)
     obtain ⟨v6, hv6⟩ : ∃ v6, v6 = Value.slice A6' n6 c6' := ⟨_, rfl⟩
     rw [← hv6] at hg7 hr6 hr7 hr4 hr5 hr0 hr1 hr2 hv7 hrr hb7 hs7 ⊢
     obtain ⟨W7, hW7⟩ : ∃ W7, W7 = w7.setCell ⟨g3, 4, none⟩ v6 := ⟨_, rfl⟩
     rw [← hW7] at hg7 hr6 hr7 hr4 hr5 hr0 hr1 hr2 hv7 hrr hb7 hs7 ⊢
     have ZA := hs7.size
     have HR0 := jA (offG hr0 hg7 (by decide))
     have HR1 := jA (Kd.R_lower (offG hr1 hg7 (by decide)) (HW3'.out))
     have HR2 := jA (offG hr2 hg7 (by decide))
     have HR4 := jA (Kd.R_lower (offG hr4 hg7 (by decide)) HW5.out.size)
     have HR5 := jA (Kd.R_lower (offG hr5 hg7 (by decide)) HW5.out.size)
     have HR6 := jA (Kd.R_lower (offG hr6 hg7 (by decide)) (Nat.le_trans HW5.out.size HS6.out.size))
     have HR7 := jA (Kd.R_lower (offG hr7 hg7 (by decide)) (Nat.le_trans HW5.out.size HS6.out.size))
     have HMK := jA (show Mk g3 W7 W7 u0 v1 u2 v4 v6 (.slice none 0 0) [] from ⟨Same.refl _ _, hg7, Kd.R_nil _ _ _ _ _⟩)
     have HV7 := jA hv7
     have HRR := jA hrr
     have HW7 := jA hb7
     clear hg7 hr6 hr7 hr4 hr5 hr0 hr1 hr2 hv7 hrr hb7 hs7 ZA hv6 hW7 HG7 HB7 HS6 HG6 HRC HRK HU0c HU1c HU2c HV5 HG5 HRW HCL HW5
     obtain ⟨WN, hWN⟩ : ∃ WN, WN = firstsN (linesOf d.subs.length (fill d.objs.length (matD d))) := ⟨_, rfl⟩
     obtain ⟨CN, hCN⟩ : ∃ CN, CN = firstsN (linesOf d.objs.length (fill d.subs.length (fun j i => matD d i j))) := ⟨_, rfl⟩
     have hW1 : firstsOf (linesOf d.subs.length (fill d.objs.length (matD d))) = WN.map (fun (n : Nat) => (n : Int)) := by rw [hWN]; rfl
     have hC1 : firstsOf (linesOf d.objs.length (fill d.subs.length (fun j i => matD d i j))) = CN.map (fun (n : Nat) => (n : Int)) := by rw [hCN]; rfl
     have hWlt : ∀ n ∈ WN, n < d.subs.length := fun n hn => by rw [hWN] at hn; have := firstsN_lt hn; rwa [linesOf_length] at this
     have hClt : ∀ n ∈ CN, n < d.objs.length := fun n hn => by rw [hCN] at hn; have := firstsN_lt hn; rwa [linesOf_length] at this
     have hMM : masksM d.subs.length d.objs.length (matD d) = WN.map (fun i => CN.map (fun j => matD d i j)) := by rw [hWN, hCN]; rfl
     have hn5 : n5 = WN.length := by rw [HN5.out, hW1, List.length_map]
     have hn7 : n7 = CN.length := by rw [HN7.out, hC1, List.length_map]
     have Ze : n7 ≤ 64 := by
      have h1 := HN7.out
      rw [firstsOf_length] at h1
      have h2 := uniq_length (linesOf d.objs.length (fill d.subs.length (fun j i => matD d i j)))
      rw [linesOf_length] at h2
      omega
     have ZH : n5 ≤ 64 := by
      have h1 := HN5.out
      rw [firstsOf_length] at h1
      have h2 := uniq_length (linesOf d.subs.length (fill d.objs.length (matD d)))
      rw [linesOf_length] at h2
      omega
     rw [hW1] at HR5
     rw [hC1] at HR7
     have HWLT := jA hWlt
     have HCLT := jA hClt
     have HMM := jA hMM
     have HW5L := jA hn5
     have HC7L := jA hn7
     clear hWN hCN hW1 hC1 hWlt hClt hMM hn5 hn7 HN5 HN7
     go_wp2
     go_loopw [110] (fun Zg wr => ∃ (a : Nat) (vm : Value), a ≤ n5 ∧ Zg = .int .i64 a ∧ Aside0 (Mk g3 W7 wr u0 v1 u2 v4 v6 vm ((masksM d.subs.length d.objs.length (matD d)).take a))) (fun Zg _ => n5 - (intOf Zg).toNat)
     case atStart => exact ⟨0, _, Nat.zero_le _, rfl, HMK⟩
     case round =>
      obtain ⟨a, vm, ha5, rfl, HA⟩ := hrel
      by_cases ZB : a < n5
      ·have hC5 := (Kd.R_reads' (HA.out.same.toR HR5.out (fun _ h => h))).2.2
       have haw : a < WN.length := by rw [← HW5L.out]; exact ZB
       obtain ⟨ad5, e5, hx5⟩ := Kd.at_int hC5 (a : Int) (by omega) (by rw [List.length_map]; omega)
       subst e5
       have hrd : rd (WN.map (fun (n : Nat) => (n : Int))) (a : Int) = ((WN[a] : Nat) : Int) := by simp [rd, haw]
       rw [hrd] at hx5
       simp only [Int.toNat_natCast] at hx5
       have hin := HWLT.out WN[a] (List.getElem_mem haw)
       have htk : (masksM d.subs.length d.objs.length (matD d)).take (a + 1) = (masksM d.subs.length d.objs.length (matD d)).take a ++ [CN.map (fun j => matD d WN[a] j)] := by
        rw [HMM.out]
        have h := List.take_succ_eq_append_getElem (l := WN.map (fun i => CN.map (fun j => matD d i j))) (i := a) (by simpa using haw)
        simpa using h
       have hmlen : ((masksM d.subs.length d.objs.length (matD d)).take a).length = a := by
        have h0 := HW5L.out; rw [List.length_take, HMM.out, List.length_map]; omega
       obtain ⟨i, hii⟩ : ∃ i, i = WN[a] := ⟨_, rfl⟩
       rw [← hii] at hx5 hin htk
       have HTK := jA htk
       have HIN := jA hin
       have HMLIM := jA (show (((masksM d.subs.length d.objs.length (matD d)).take a).length + 1) * 24 ≤ 140737488355328 by omega)
       obtain ⟨ms, hms⟩ : ∃ ms, ms = (masksM d.subs.length d.objs.length (matD d)).take a := ⟨_, rfl⟩
       rw [← hms] at HA HMLIM HTK
       have hmk := make_row n7 Ze
       have c05 : (a : Int) < n5 := by omega
       clear hC5 haw hrd hin htk hmlen hii hms
       go_upto_region 24 with fail
       clear hmk hx5
       have hb8 := below_alloc (Below.refl _ wr) (.cells (madeCells #[.int .u16 0] n7) 104)
       have hr8 := row_none wr n7 Ze
       have hm8 := HA.out.move hb8
       have Zd := Kd.R_below (Kd.R_mono (Kd.R_bound HA.out.ms) (ok' := fun b => b < wr.heap.size) (fun k hk => hk.2.2.1)) hb8
       have Zh : W7.heap.size ≤ wr.heap.size := HA.out.same.size
       obtain ⟨vr, hvr⟩ : ∃ vr, vr = Value.slice (some ⟨wr.heap.size, 0, none⟩) 0 n7 := ⟨_, rfl⟩
       rw [← hvr] at hr8 ⊢
       obtain ⟨W8, hW8⟩ : ∃ W8, W8 = wr.alloc (.cells (madeCells #[.int .u16 0] n7) 104) := ⟨_, rfl⟩
       obtain ⟨B8, hB8⟩ : ∃ B8, B8 = wr.heap.size := ⟨_, rfl⟩
       rw [← hW8] at hr8 hm8 Zd ⊢
       rw [← hB8] at hr8 Zd Zh
       have HR8 := jA hr8
       have HM8 := jA hm8
       have ZC := jA Zd
       have Zr := jA Zh
       have ZD := jA (show B8 ≤ W8.heap.size by rw [hB8, hW8]; exact hb8.size)
       clear hb8 hr8 hm8 Zd Zh hvr hW8 hB8 HA
       go_wp2
       go_loopw [16, 119] (fun u16 Zi wr => ∃ b : Nat, b ≤ n7 ∧ Zi = .int .i64 b ∧ Aside0 (Mk g3 W7 wr u0 v1 u2 v4 v6 vm ms) ∧ Aside0 (Kd.R (Kd.slice 104 (Kd.int .u16)) 103 wr W7.heap.size (fun b => b < B8) vm ms) ∧ Aside0 (Kd.R (Kd.int .u16) 104 wr B8 (fun _ => True) u16 ((CN.map (fun j => matD d i j)).take b)) ∧ Aside0 (B8 ≤ wr.heap.size)) (fun _ Zi _ => n7 - (intOf Zi).toNat)
       case atStart => exact ⟨0, Nat.zero_le _, rfl, HM8, ZC, HR8, ZD⟩
       case round =>
        obtain ⟨b, hb7, rfl, HMb, HMSb, HRb, Zs⟩ := hrel
        by_cases hltb : b < n7
        ·have hC7 := (Kd.R_reads' (HMb.out.same.toR HR7.out (fun _ h => h))).2.2
         have hbw : b < CN.length := by rw [← HC7L.out]; exact hltb
         obtain ⟨ad7, e7, hx7⟩ := Kd.at_int hC7 (b : Int) (by omega) (by rw [List.length_map]; omega)
         subst e7
         have hrd : rd (CN.map (fun (n : Nat) => (n : Int))) (b : Int) = ((CN[b] : Nat) : Int) := by simp [rd, hbw]
         rw [hrd] at hx7
         simp only [Int.toNat_natCast] at hx7
         have hjn := HCLT.out CN[b] (List.getElem_mem hbw)
         have htk : (CN.map (fun j => matD d i j)).take (b + 1) = (CN.map (fun j => matD d i j)).take b ++ [matD d i CN[b]] := by
          have h := List.take_succ_eq_append_getElem (l := CN.map (fun j => matD d i j)) (i := b) (by simpa using hbw)
          simpa using h
         have hrlen : ((CN.map (fun j => matD d i j)).take b).length = b := by have h0 := HC7L.out; rw [List.length_take, List.length_map]; omega
         obtain ⟨j, hjj⟩ : ∃ j, j = CN[b] := ⟨_, rfl⟩
         rw [← hjj] at hx7 hjn htk
         have HTKb := jA htk
         have HRLIM := jA (show (((CN.map (fun j => matD d i j)).take b).length + 1) * 2 ≤ 140737488355328 by omega)
         have hinn := HIN.out
         have n1 : j < 64 := by omega
         have hcell := (HMb.out.same.blk HRR.out (by have h := HN1.out; exact h)).cell (i := i) (j := j) hinn n1
         have hval : fill d.objs.length (matD d) i j = matD d i j := by unfold fill; rw [if_pos hjn]
         rw [hval] at hcell
         obtain ⟨q, hq⟩ : ∃ q, q = matD d i j := ⟨_, rfl⟩
         rw [← hq] at hcell HTKb
         obtain ⟨rl, hrl⟩ : ∃ rl, rl = (CN.map (fun j => matD d i j)).take b := ⟨_, rfl⟩
         rw [← hrl] at HRb HRLIM HTKb
         have c07 : (b : Int) < n7 := by omega
         have c08 : (i : Int) < d.subs.length := by omega
         have c09 : (j : Int) < 64 := by omega
         have hg3b : Stays wr g3 _ 59 := HMb.out.g
         have HNEb := jA (Kd.R_ne HRb.out HMb.out.g (by decide))
         clear hC7 hbw hrd hjn htk hrlen hval hq hrl hjj hg3b
         go_wp2_with (first | ((with_reducible refine gate_builtin (b := .append) (xs := #[.tmp 123, .tmp 130]) rfl ?_); at_builtin; refine Kd.R_append (Kd.int .u16) (w0 := wr) B8 rfl (.tmp 123) (.tmp 130) 103 104 (.int .u16 0) 2 rfl Try.underlying103 PG.info104 rfl (by decide) (by decide) u16 rl q [.int .u16 q] (fun _ => True) (fun _ => False) rfl rfl rfl (fun _ hk => hk.elim) (fun _ _ => trivial) HRb.out (Below.refl _ _) (Zs.out) HRLIM.out ?_; intro v9 w9 hR9 hB9 hg9 Zf; have HR9 := jA hR9; have hM9 := HMb.out.row HMSb.out Zr.out (fun k hk => by (obtain ⟨inner, ho⟩ := Kd.R_own HRb.out); exact own_base ho k hk) hg9 HNEb.out; have HM9 := jA hM9.1; have ZE := jA hM9.2; have ZF := jA hg9.size; clear hR9 hB9 hg9 Zf hM9))
         go_roundw
         case rel => exact ⟨b + 1, by omega, by go_num, HM9, ZE, ⟨by rw [HTKb.out]; exact HR9.out⟩, ⟨Nat.le_trans Zs.out ZF.out⟩⟩
         case measure => simp [intOf]; omega
        ·have hbb : b = n7 := by omega
         subst hbb
         have hrow := HRb.out
         rw [List.take_of_length_le (by have h0 := HC7L.out; rw [List.length_map]; omega)] at hrow
         obtain ⟨Ar, cr, er⟩ := Kd.R_slice hrow
         obtain ⟨nr, hnr⟩ : ∃ nr, nr = (CN.map (fun j => matD d i j)).length := ⟨_, rfl⟩
         rw [← hnr] at er
         subst er
         have HROW := jA hrow
         have e5 := HMb.out.g.cell 5
         simp only [gV, Jt, Ju, Jv] at e5
         obtain ⟨rl, hrl⟩ : ∃ rl, rl = CN.map (fun j => matD d i j) := ⟨_, rfl⟩
         rw [← hrl] at HROW HTK
         have HSZ := jA HMb.out.same.size
         have hpm : (Kd.slice 104 (Kd.int .u16)).M wr W7.heap.size (fun k => (Value.slice Ar nr cr).ownBlock = some k) rl [.slice Ar nr cr] := ⟨_, rfl, ⟨fun _ h => h, (Kd.R_lower HROW.out Zr.out).2.imp_ (fun _ _ h => h)⟩⟩
         have hokm : ∀ k, (Value.slice Ar nr cr).ownBlock = some k → True ∧ some k ≠ vm.ownBlock := fun k hk => ⟨trivial, fun e => by
          have h1 := HMSb.out.1 k e.symm
          obtain ⟨inner, ho⟩ := Kd.R_own HROW.out
          have h2 := own_base ho k hk
          omega⟩
         have HPM := jA hpm
         have HOKM := jA hokm
         clear hrow hnr hrl HRb hpm hokm
         go_upto_region 30 with (first | ((with_reducible refine gate_builtin (b := .append) (xs := #[.tmp 134, .tmp 136]) rfl ?_); at_builtin; refine Kd.R_append (Kd.slice 104 (Kd.int .u16)) (w0 := wr) W7.heap.size rfl (.tmp 134) (.tmp 136) 57 103 (.slice none 0 0) 24 rfl Try.underlying57 info103 rfl (by decide) (by decide) vm ms rl [.slice Ar nr cr] (fun _ => True) (fun k => (Value.slice Ar nr cr).ownBlock = some k) rfl rfl HPM.out HOKM.out (fun _ _ => trivial) HMb.out.ms (Below.refl _ _) HSZ.out HMLIM.out ?_; intro v11 w11 Zj ZG Zk Zt; have Zu := jA (HMb.out.app Zj Zk); have Zl : Stays w11 g3 (gV u0 v1 u2 v4 v6 vm) 59 := (Zk.block _ (Array.getElem?_eq_some_iff.1 HMb.out.g).1 (Kd.R_ne HMb.out.ms HMb.out.g (by decide))).trans HMb.out.g; have x11 := Zl.cell 5; simp only [gV, Jt, Ju, Jv] at x11; have f11 : w11.frozen? ⟨g3, 5, none⟩ = false := frozen_of_row _ _ _ _ _ Zl; obtain ⟨A11, c11, e11⟩ := Kd.R_slice Zj; obtain ⟨n11, Zv⟩ : ∃ n11, n11 = (ms ++ [rl]).length := ⟨_, rfl⟩; rw [← Zv] at e11; subst e11; clear Zj ZG Zk Zt Zl Zv))
         clear e5 x11 f11
         rw [← HTK.out] at Zu
         go_wp2
         go_roundw
         case rel => exact ⟨a + 1, _, by omega, by go_num, Zu⟩
         case measure => simp [intOf]; omega
      ·have haa : a = n5 := by omega
       subst haa
       have hA := HA.out
       rw [List.take_of_length_le (by have h0 := HW5L.out; rw [HMM.out, List.length_map]; omega)] at hA
       have hVf := hA.same.stays HV7.out (by have h1 := HG3.out; intro e; have e : gv = g3 := e; omega)
       have q0 := hA.same.toR HR0.out (fun _ h => h)
       have q1 := hA.same.toR HR1.out (fun _ h => h)
       have q2 := hA.same.toR HR2.out (fun _ h => h)
       have q3 := hA.same.toR HR4.out (fun _ h => h)
       have q4 := hA.same.toR HR6.out (fun _ h => h)
       have q5 := hA.ms
       obtain ⟨B0', k0, rfl⟩ := Kd.R_slice q0
       obtain ⟨B1', k1, rfl⟩ := Kd.R_slice q1
       obtain ⟨B2', k2, rfl⟩ := Kd.R_slice q2
       obtain ⟨B3', k3, rfl⟩ := Kd.R_slice q3
       obtain ⟨B4', k4, rfl⟩ := Kd.R_slice q4
       obtain ⟨B5', k5, rfl⟩ := Kd.R_slice q5
       obtain ⟨G0, hG0⟩ : ∃ G0 : Array Value, G0 = gV (.slice B0' d.acts.length k0) (.slice B1' (d.subs.map (·.f0)).length k1) (.slice B2' d.objs.length k2) (.slice B3' (numsOf (linesOf d.subs.length (fill d.objs.length (matD d)))).length k3) (.slice B4' (numsOf (linesOf d.objs.length (fill d.subs.length (fun j i => matD d i j)))).length k4) (.slice B5' (masksM d.subs.length d.objs.length (matD d)).length k5) := ⟨_, rfl⟩
       have hsz : G0.size = 6 := by rw [hG0]; rfl
       have h1c : G0.all (·.oneCell') = true := by rw [hG0]; simp [gV, Value.oneCell']
       have hg := hA.g
       rw [← hG0] at hg
       have HVF := jA hVf
       have HGF := jA hg
       have HSZ := jA (show (Try.prog.info? 59).map (·.size) = some G0.size by rw [hsz]; exact i26)
       have Zw := jA (show G0.size = (#[.slice none 0 0, .slice none 0 0, .slice none 0 0, .slice none 0 0, .slice none 0 0, .slice none 0 0] : Array Value).size by rw [hsz]; rfl)
       have H1C := jA h1c
       have HG0 := jA hG0
       have HBF := jA (hA.same.below HW7.out (fun k hk => by have h1 := HG3.out; have h2 := HGV.out; have hk : k = g3 := hk; omega))
       have Q0 := jA q0
       have Q1 := jA q1
       have Q2 := jA q2
       have Q3 := jA q3
       have Q4 := jA q4
       have Q5 := jA q5
       clear hA hVf q0 q1 q2 q3 q4 q5 hsz h1c hg hG0 HA
       go_wp2_with (first | ((with_reducible refine gate_dst (N := 140) rfl ?_); refine wpList_load_blk rfl 59 (.tmp 3) rfl g3 ?hx G0 59 HGF.out _ Try.underlying59 rfl HSZ.out ?_; (case hx => rfl)) | ((with_reducible refine gate_store (t := 59) (p := 2) (v := .tmp 140) rfl ?_); refine wpList_store_var rfl 59 (.tmp 2) (.tmp 140) rfl gv G0 ?hx ?hy HVF.out Zw.out HSZ.out H1C.out ?_; (case hx => rfl); (case hy => rfl)))
       (try simp only [Exit.inBlock, Exit.then])
       have hres := setCells_var (vs := G0) HVF.out Zw.out
       refine bodyPost_ret (results_single rfl (.cell gv 59 G0 (0, 0) _ rfl hres Try.underlying59 rfl HSZ.out .nil)) rfl ?_
       have p0 := Kd.R_reads' (R_setCells Q0.out HVF.out (by decide) G0.toList)
       have p1 := Kd.R_reads' (R_setCells Q1.out HVF.out (by decide) G0.toList)
       have p2 := Kd.R_reads' (R_setCells Q2.out HVF.out (by decide) G0.toList)
       have p3 := Kd.R_reads' (R_setCells Q3.out HVF.out (by decide) G0.toList)
       have p4 := Kd.R_reads' (R_setCells Q4.out HVF.out (by decide) G0.toList)
       have p5 := Kd.R_reads' (R_setCells Q5.out HVF.out types_ms G0.toList)
       refine ⟨⟨B0', k0, d.acts, B1', k1, d.subs.map (·.f0), B2', k2, d.objs, B3', k3, numsOf (linesOf d.subs.length (fill d.objs.length (matD d))), B4', k4, numsOf (linesOf d.objs.length (fill d.subs.length (fun j i => matD d i j))), B5', k5, masksM d.subs.length d.objs.length (matD d)⟩, ?_, ⟨p0.2.2, p1.2.2, p2.2.2, p3.2.2, p4.2.2, p5.2.2, p0.2.1, p1.2.1, p2.2.1, p3.2.1, p4.2.1, p5.2.1, ?_⟩, rfl, rfl, rfl, rfl, rfl, rfl, setCells_below HBF.out (Nat.le_of_lt HGV.out) _⟩
       ·rw [HG0.out]; rfl
       ·intro row hr x hx
        have hr : row ∈ masksM d.subs.length d.objs.length (matD d) := hr
        unfold masksM at hr
        obtain ⟨i, _, rfl⟩ := List.mem_map.1 hr
        obtain ⟨j, _, rfl⟩ := List.mem_map.1 hx
        exact matD_u16 d ha i j
end Go.Proofs.Ytdgkppldopiaoaa.CCompile
/- A compiled graph decides as the policy allows. -/
namespace Go.Proofs.Ytdgkppldopiaoaa.CSays
open Go.RowKit YtdgkppldopiaoaaW.PrintWords YtdgkppldopiaoaaW.PrintLast YtdgkppldopiaoaaW.PrintMore CPure CSame CCompile GValid MPol
open PG
theorem rd_get {l : List Int} {i : Nat} {x : Int} (h : l[i]? = some x) : rd l (i : Int) = x := by simp [rd, h]
structure Comp (d : PolD) (g : G) : Prop where
 la : g.la = d.acts
 ls : g.ls = d.subs.map (·.f0)
 lo : g.lo = d.objs
 of : g.of = ofM d.subs.length d.objs.length (matD d)
 on : g.on = ofM d.objs.length d.subs.length (fun j i => matD d i j)
 ms : g.ms = masksM d.subs.length d.objs.length (matD d)
theorem compile_comp (p : Pol) (w : World) (hp : p.In w) (hd : p.d.Ok) (hs : p.d.subs.length ≤ 64) (ho : p.d.objs.length ≤ 64) (ha : p.d.acts.length ≤ 16) :
  Calls Try.prog 14 #[.agg p.cells] w fun e w' => ∃ g : G, e = .returned g.val ∧ g.In w' ∧ Comp p.d g ∧ Below w.heap.size w w' :=
 (compile_calls p w hp hd hs ho ha).mono fun _ _ ⟨g, h1, h2, h3, h4, h5, h6, h7, h8, h9⟩ => ⟨g, h1, h2, ⟨h3, h4, h5, h6, h7, h8⟩, h9⟩
end Go.Proofs.Ytdgkppldopiaoaa.CSays
/- one("ann") (gatehouselaw23), walked; what it compiles to. -/
namespace Go.Proofs.Ytdgkppldopiaoaa.ROne
open Go.RowKit YtdgkppldopiaoaaW.PrintWords YtdgkppldopiaoaaW.PrintLast YtdgkppldopiaoaaW.PrintMore BMap BRow CPure CSame CCompile CSays GValid MLines MSide MPol Go.Maps
open PG
abbrev bOpen : ByteArray := ⟨#[111, 112, 101, 110]⟩
abbrev bAnn : ByteArray := ⟨#[97, 110, 110]⟩
abbrev bBob : ByteArray := ⟨#[98, 111, 98]⟩
abbrev bDoor : ByteArray := ⟨#[100, 111, 111, 114]⟩
def rule1 : S73 := ⟨false, bAnn, bDoor, [], 0, 0⟩
def d1 : PolD := ⟨[bOpen], [⟨bAnn, 4607182418800017408⟩, ⟨bBob, 4607182418800017408⟩], [], [bDoor], [], [], [], [], [], [rule1], []⟩
theorem reach_nil {x s : ByteArray} (h : MClose.Reach ([] ++ []) x s) : s = x := by
 rcases MClose.reach_in h with h | h
 ·exact h
 ·simp at h
theorem trust_in (d : PolD) (s : ByteArray) : (d.trust s).isSome = true ↔ s ∈ d.subs.map (·.f0) := by
 rw [List.mem_map]
 constructor
 ·intro h
  unfold PolD.trust at h
  cases hf : d.subs.find? (fun x => decide (x.f0 = s)) with
  | none => rw [hf] at h; simp at h
  | some y => exact ⟨y, List.mem_of_find?_eq_some hf, by have := List.find?_some hf; simpa using this⟩
 ·rintro ⟨y, hy, he⟩
  obtain ⟨tr, h⟩ := trust_some (d := d) (s := s) ⟨y, hy, he⟩
  rw [h]; rfl
open Classical in
theorem allow1 (t : S41) : d1.allowB t = true ↔ t = ⟨bAnn, bDoor, bOpen⟩ := by
 constructor
 ·intro h
  unfold PolD.allowB at h
  simp only [Bool.and_eq_true, decide_eq_true_eq] at h
  have h4 := (allowsF_iff _ _ _).1 h.2.2.2
  obtain ⟨⟨⟨r, hr, hn⟩, _⟩, _⟩ := h4
  unfold PolD.speak at hr
  obtain ⟨hr1, hr2⟩ := List.mem_filter.1 hr
  have hr1 : r = rule1 := by simpa [d1] using hr1
  subst hr1
  unfold speaksB at hr2
  simp only [Bool.and_eq_true, decide_eq_true_eq] at hr2
  have e0 := reach_nil hr2.1
  have e1 := reach_nil hr2.2.1
  have e2 : t.f2 = bOpen := by
   have : t.f2 ∈ d1.acts := h.2.2.1
   simpa [d1] using this
  obtain ⟨a, b, c⟩ := t
  simp only [rule1] at e0 e1 e2
  rw [← e0, ← e1, e2]
 ·rintro rfl
  unfold PolD.allowB
  simp only [Bool.and_eq_true, decide_eq_true_eq]
  refine ⟨(trust_in _ _).2 (by simp [d1]), by simp [d1], by simp [d1], ?_⟩
  rw [allowsF_iff]
  have hsp : rule1 ∈ d1.speak bAnn bDoor ((d1.trust bAnn).getD 0) := by
   unfold PolD.speak
   refine List.mem_filter.2 ⟨by simp [d1], ?_⟩
   unfold speaksB
   simp only [Bool.and_eq_true, decide_eq_true_eq]
   exact ⟨MClose.Reach.here, MClose.Reach.here, by simp [passB, rule1]⟩
  refine ⟨⟨⟨rule1, hsp, .inl (by simp [rule1])⟩, ?_⟩, by simp [d1]⟩
  intro r hr _
  unfold PolD.speak at hr
  have hr1 : r = rule1 := by simpa [d1] using (List.mem_filter.1 hr).1
  subst hr1
  rfl
theorem allow1_no (t : S41) (h : t ≠ ⟨bAnn, bDoor, bOpen⟩) : d1.allowB t = false := by
 cases hq : d1.allowB t with
 | false => rfl
 | true => exact absurd ((allow1 t).1 hq) h
def m1 (i _j : Nat) : Int := if i = 0 then 1 else 0
theorem mask1 (s o : ByteArray) : maskD d1 s o = if s = bAnn ∧ o = bDoor then 1 else 0 := by
 refine Nat.eq_of_testBit_eq fun k => ?_
 unfold maskD
 rw [maskN_bit]
 have hl : d1.acts.length = 1 := rfl
 by_cases hk : k < 1
 ·obtain rfl : k = 0 := by omega
  have e : d1.acts[0]? = some bOpen := rfl
  simp only [e, hl]
  by_cases h : s = bAnn ∧ o = bDoor
  ·obtain ⟨rfl, rfl⟩ := h
   rw [if_pos ⟨rfl, rfl⟩, (allow1 _).2 rfl]; rfl
  ·rw [if_neg h, allow1_no _ (by intro e; injection e with e0 e1 _; exact h ⟨e0, e1⟩)]; rfl
 ·have : decide (k < d1.acts.length) = false := by rw [hl]; simpa using hk
  rw [this, Bool.false_and]
  have hk2 : 1 < 2 ^ k := Nat.lt_of_lt_of_le (by decide : 1 < 2 ^ 1) (Nat.pow_le_pow_right (by omega) (by omega))
  split
  ·exact (Nat.testBit_lt_two_pow hk2).symm
  ·simp
theorem mat1 (i j : Nat) (hi : i < 2) (hj : j < 1) : matD d1 i j = m1 i j := by
 unfold matD
 rw [mask1]
 obtain rfl : j = 0 := by omega
 rcases (by omega : i = 0 ∨ i = 1) with rfl | rfl
 ·rw [if_pos (by decide)]; rfl
 ·rw [if_neg (by decide)]; rfl
theorem lines_congr {n m : Nat} {M N : Nat → Nat → Int} (h : ∀ i j, i < n → j < m → M i j = N i j) : lines n m M = lines n m N := by
 unfold lines
 refine List.map_congr_left fun a ha => List.map_congr_left fun b _ => ?_
 unfold fill
 split
 ·rename_i hb; exact h a b (by simpa using ha) hb
 ·rfl
theorem e1 : lines 2 1 (matD d1) = lines 2 1 m1 := lines_congr fun i j hi hj => mat1 i j hi hj
theorem e2 : lines 1 2 (fun j i => matD d1 i j) = lines 1 2 (fun j i => m1 i j) := lines_congr fun j i hj hi => mat1 i j hi hj
theorem masks1 : masksM d1.subs.length d1.objs.length (matD d1) = [[1], [0]] := by
 show masksM 2 1 (matD d1) = _
 unfold masksM
 rw [e1, e2]
 have f1 : firstsN (lines 2 1 m1) = [0, 1] := by decide +kernel
 have f2 : firstsN (lines 1 2 (fun j i => m1 i j)) = [0] := by decide +kernel
 rw [f1, f2]
 simp only [List.map_cons, List.map_nil]
 rw [mat1 0 0 (by omega) (by omega), mat1 1 0 (by omega) (by omega)]
 rfl
theorem of1 : ofM d1.subs.length d1.objs.length (matD d1) = [1, 2] := by
 show numsOf (lines 2 1 (matD d1)) = _
 rw [e1]
 decide +kernel
theorem on1 : ofM d1.objs.length d1.subs.length (fun j i => matD d1 i j) = [1] := by
 show numsOf (lines 1 2 (fun j i => matD d1 i j)) = _
 rw [e2]
 decide +kernel
theorem C_one {α : Type} {dk : Kd α} {w : World} {b t : Nat} {x : α} {cs : Array Value} {cx : List Value} (hS : Stays w b cs t) (hcs : cs.toList = cx) (hx : dk.K w x cx) : Kd.C dk w (some ⟨b, 0, none⟩) 1 [x] := by
 refine ⟨rfl, by decide, fun _ => ⟨_, rfl, fun j p hp => ?_⟩⟩
 have hj : j = 0 := by have := (List.getElem?_eq_some_iff.1 hp).1; simpa using this
 subst hj
 have hp : x = p := by simpa using hp
 subst hp
 refine ⟨cx, dk.K_len hx, hx, fun i u hu => ?_⟩
 have e : ((⟨b, 0, none⟩ : Addr).add (0 * dk.sz + i)) = ⟨b, i, none⟩ := by rw [Addr.add_mid, Nat.zero_mul, Nat.zero_add, Nat.zero_add]
 rw [e, hS.cell, ← Array.getElem?_toList, hcs]
 exact hu
theorem C_two {α : Type} {dk : Kd α} {w : World} {b t : Nat} {x y : α} {cs : Array Value} {cx cy : List Value} (hS : Stays w b cs t) (hcs : cs.toList = cx ++ cy) (hx : dk.K w x cx) (hy : dk.K w y cy) : Kd.C dk w (some ⟨b, 0, none⟩) 2 [x, y] := by
 refine ⟨rfl, by decide, fun _ => ⟨_, rfl, fun j p hp => ?_⟩⟩
 have hj : j < 2 := by have := (List.getElem?_eq_some_iff.1 hp).1; simpa using this
 have hj : j = 0 ∨ j = 1 := by omega
 rcases hj with rfl | rfl
 ·have hp : x = p := by simpa using hp
  subst hp
  refine ⟨cx, dk.K_len hx, hx, fun i u hu => ?_⟩
  have e : ((⟨b, 0, none⟩ : Addr).add (0 * dk.sz + i)) = ⟨b, i, none⟩ := by rw [Addr.add_mid, Nat.zero_mul, Nat.zero_add, Nat.zero_add]
  have hi := (List.getElem?_eq_some_iff.1 hu).1
  rw [e, hS.cell, ← Array.getElem?_toList, hcs, List.getElem?_append_left hi]
  exact hu
 ·have hp : y = p := by simpa using hp
  subst hp
  refine ⟨cy, dk.K_len hy, hy, fun i u hu => ?_⟩
  have e : ((⟨b, 0, none⟩ : Addr).add (1 * dk.sz + i)) = ⟨b, dk.sz + i, none⟩ := by rw [Addr.add_mid, Nat.one_mul, Nat.zero_add]
  have hl := dk.K_len hx
  rw [e, hS.cell, ← Array.getElem?_toList, hcs, List.getElem?_append_right (by omega), hl, Nat.add_sub_cancel_left]
  exact hu
theorem C_nil {α : Type} (dk : Kd α) (w : World) : Kd.C dk w none 0 [] := ⟨rfl, by decide, fun h => absurd h (by decide)⟩
def p1 (b : Nat) : Pol := ⟨d1, some ⟨b, 0, none⟩, 1, some ⟨b + 1, 0, none⟩, 2, none, 0, some ⟨b + 1 + 1, 0, none⟩, 1, none, 0, none, 0, none, 0, none, 0, none, 0, some ⟨b + 1 + 1 + 1, 0, none⟩, 1, none, 0⟩
theorem p1_in {W : World} {b : Nat} (h0 : Stays W b #[.string bOpen] 9) (h1 : Stays W (b + 1) #[.string bAnn, .float .f64 4607182418800017408, .string bBob, .float .f64 4607182418800017408] 70) (h2 : Stays W (b + 1 + 1) #[.string bDoor] 9)
  (h4 : Stays W (b + 1 + 1 + 1) #[.bool false, .string bAnn, .string bDoor, .slice none 0 0, .int .i8 0, .float .f64 0] 73) : (p1 b).In W where
 h0 := C_one h0 rfl rfl
 h1 := C_two h1 rfl (k70_mk W ⟨bAnn, 4607182418800017408⟩) (k70_mk W ⟨bBob, 4607182418800017408⟩)
 h2 := C_nil _ _
 h3 := C_one h2 rfl rfl
 h4 := C_nil _ _
 h5 := C_nil _ _
 h6 := C_nil _ _
 h7 := C_nil _ _
 h8 := C_nil _ _
 h9 := C_one h4 rfl (k73_mk W rule1 (A3 := none) (c3 := 0) (Nat.le_refl 0) (C_nil _ _))
 h10 := C_nil _ _
 l0 := Nat.le_refl 1
 l1 := Nat.le_refl 2
 l2 := Nat.le_refl 0
 l3 := Nat.le_refl 1
 l4 := Nat.le_refl 0
 l5 := Nat.le_refl 0
 l6 := Nat.le_refl 0
 l7 := Nat.le_refl 0
 l8 := Nat.le_refl 0
 l9 := Nat.le_refl 1
 l10 := Nat.le_refl 0
theorem d1_ok : d1.Ok where
 subs := by intro s hs; simp [d1] at hs; rcases hs with rfl | rfl <;> decide
 objs := by intro s hs; simp [d1] at hs; rcases hs with rfl | rfl <;> decide
 acts := by intro s hs; simp [d1] at hs; rcases hs with rfl | rfl <;> decide
 mem := by simp [d1]
 inh := by simp [d1]
 par := by simp [d1]
 wit := by simp [d1]
 rules := by intro r hr; simp [d1] at hr; subst hr; exact ⟨by decide, by decide⟩
 lmem := by decide
 linh := by decide
 lpar := by decide
 lwit := by decide
 lrules := by decide
def pV (b : Nat) : Array Value := #[.slice (some ⟨b, 0, none⟩) 1 1, .slice (some ⟨b + 1, 0, none⟩) 2 2, .slice none 0 0, .slice (some ⟨b + 1 + 1, 0, none⟩) 1 1, .slice none 0 0, .slice none 0 0, .slice none 0 0, .slice none 0 0, .slice none 0 0, .slice (some ⟨b + 1 + 1 + 1, 0, none⟩) 1 1, .slice none 0 0]
structure G1 (g : G) : Prop where
 la : g.la = [bOpen]
 ls : g.ls = [bAnn, bBob]
 lo : g.lo = [bDoor]
 of : g.of = [1, 2]
 on : g.on = [1]
 ms : g.ms = [[1], [0]]
theorem compile1 (b : Nat) (w : World) (h : (p1 b).In w) :
  Calls Try.prog 14 #[.agg (pV b)] w fun e w' => ∃ g : G, e = .returned g.val ∧ g.In w' ∧ G1 g ∧ Below w.heap.size w w' :=
 (compile_comp (p1 b) w h d1_ok (by show 2 ≤ 64; decide) (by show 1 ≤ 64; decide) (by show 1 ≤ 16; decide)).mono fun e w' ⟨g, h1, h2, h3, h4⟩ => ⟨g, h1, h2, ⟨h3.la, h3.ls, h3.lo, h3.of.trans of1, h3.on.trans on1, h3.ms.trans masks1⟩, h4⟩
theorem i31 : (Try.prog.info? 31).map (·.size) = some 11 := by kernel_rfl
theorem Pol.In.below {p : Pol} {w w1 : World} (h : p.In w) (hb : Below w.heap.size w w1) : p.In w1 :=
 { h with h0 := Kd.C_below h.h0 hb, h1 := Kd.C_below h.h1 hb, h2 := Kd.C_below h.h2 hb, h3 := Kd.C_below h.h3 hb, h4 := Kd.C_below h.h4 hb, h5 := Kd.C_below h.h5 hb, h6 := Kd.C_below h.h6 hb, h7 := Kd.C_below h.h7 hb, h8 := Kd.C_below h.h8 hb, h9 := Kd.C_below h.h9 hb, h10 := Kd.C_below h.h10 hb }
theorem up {w : World} {o x : Obj} {b : Nat} (h : w.heap[b]? = some x) : (w.alloc o).heap[b]? = some x := (Below.heap_alloc w o b (Array.getElem?_eq_some_iff.1 h).1).trans h
theorem one_calls (w : World) : Calls Try.prog 6 #[.string bAnn] w fun e w' => ∃ b, e = .returned (.agg (pV b)) ∧ (p1 b).In w' ∧ Below w.heap.size w w' := by
 go_enter Try.func6, Try.ntmps6
 go_wp2
 obtain ⟨b, hb⟩ : ∃ b, b = w.heap.size := ⟨_, rfl⟩
 have n1 : (w.alloc (.cells (pV (b + 1)) 31)).heap.size = b + 1 := by rw [World.size_alloc, hb]
 have n2 : ((w.alloc (.cells (pV (b + 1)) 31)).alloc (.cells #[.string bOpen] 9)).heap.size = b + 1 + 1 := by rw [World.size_alloc, n1]
 have n3 : (((w.alloc (.cells (pV (b + 1)) 31)).alloc (.cells #[.string bOpen] 9)).alloc (.cells #[.string bAnn, .float .f64 4607182418800017408, .string bBob, .float .f64 4607182418800017408] 70)).heap.size = b + 1 + 1 + 1 := by rw [World.size_alloc, n2]
 have n4 : ((((w.alloc (.cells (pV (b + 1)) 31)).alloc (.cells #[.string bOpen] 9)).alloc (.cells #[.string bAnn, .float .f64 4607182418800017408, .string bBob, .float .f64 4607182418800017408] 70)).alloc (.cells #[.string bDoor] 9)).heap.size = b + 1 + 1 + 1 + 1 := by rw [World.size_alloc, n3]
 have h0 := heap_alloc_new w (.cells (pV (b + 1)) 31)
 have h1 := heap_alloc_new (w.alloc (.cells (pV (b + 1)) 31)) (.cells #[.string bOpen] 9)
 have h2 := heap_alloc_new ((w.alloc (.cells (pV (b + 1)) 31)).alloc (.cells #[.string bOpen] 9)) (.cells #[.string bAnn, .float .f64 4607182418800017408, .string bBob, .float .f64 4607182418800017408] 70)
 have h3 := heap_alloc_new (((w.alloc (.cells (pV (b + 1)) 31)).alloc (.cells #[.string bOpen] 9)).alloc (.cells #[.string bAnn, .float .f64 4607182418800017408, .string bBob, .float .f64 4607182418800017408] 70)) (.cells #[.string bDoor] 9)
 have h4 := heap_alloc_new ((((w.alloc (.cells (pV (b + 1)) 31)).alloc (.cells #[.string bOpen] 9)).alloc (.cells #[.string bAnn, .float .f64 4607182418800017408, .string bBob, .float .f64 4607182418800017408] 70)).alloc (.cells #[.string bDoor] 9)) (.cells #[.bool false, .string bAnn, .string bDoor, .slice none 0 0, .int .i8 0, .float .f64 0] 73)
 rw [n1] at h1
 rw [n2] at h2
 rw [n3] at h3
 rw [n4] at h4
 have hbel : Below w.heap.size w (((((w.alloc (.cells (pV (b + 1)) 31)).alloc (.cells #[.string bOpen] 9)).alloc (.cells #[.string bAnn, .float .f64 4607182418800017408, .string bBob, .float .f64 4607182418800017408] 70)).alloc (.cells #[.string bDoor] 9)).alloc (.cells #[.bool false, .string bAnn, .string bDoor, .slice none 0 0, .int .i8 0, .float .f64 0] 73)) := by repeat (first | exact Below.refl _ _ | refine below_alloc ?_ _)
 have hv := up (o := .cells #[.bool false, .string bAnn, .string bDoor, .slice none 0 0, .int .i8 0, .float .f64 0] 73) (up (o := .cells #[.string bDoor] 9) (up (o := .cells #[.string bAnn, .float .f64 4607182418800017408, .string bBob, .float .f64 4607182418800017408] 70) (up (o := .cells #[.string bOpen] 9) h0)))
 have hp := p1_in (b := b + 1) (up (o := .cells #[.bool false, .string bAnn, .string bDoor, .slice none 0 0, .int .i8 0, .float .f64 0] 73) (up (o := .cells #[.string bDoor] 9) (up (o := .cells #[.string bAnn, .float .f64 4607182418800017408, .string bBob, .float .f64 4607182418800017408] 70) h1))) (up (o := .cells #[.bool false, .string bAnn, .string bDoor, .slice none 0 0, .int .i8 0, .float .f64 0] 73) (up (o := .cells #[.string bDoor] 9) h2)) (up (o := .cells #[.bool false, .string bAnn, .string bDoor, .slice none 0 0, .int .i8 0, .float .f64 0] 73) h3) h4
 have HP := jA hp
 have HB := jA hbel
 rw [← hb] at hv ⊢
 rw [← hb] at HB
 refine bodyPost_ret (results_single rfl (.cell b 31 (pV (b + 1)) (0, 0) _ rfl hv Try.underlying31 rfl i31 .nil)) rfl ?_
 exact ⟨b + 1, rfl, HP.out, HB.out⟩
end Go.Proofs.Ytdgkppldopiaoaa.ROne
namespace Go.Proofs.Ytdgkppldopiaoaa.PH
open YtdgkppldopiaoaaF
attribute [local go_sem high] run_feq run_fne run_flt_lt run_flt_le run_flt_gt run_flt_ge
open Go.RowKit YtdgkppldopiaoaaW.PrintWords YtdgkppldopiaoaaW.PrintLast YtdgkppldopiaoaaW.PrintMore
attribute [local go_sem] max2_int min2_int max_two min_two max_three min_three max_four min_four
def errW : Option Int → Value
 | none => .nilIface
 | some c => .iface 0 (.int .i64 c)
theorem errW_none : errW none = .nilIface := rfl
theorem errW_some (c : Int) : errW (some c) = .iface 0 (.int .i64 c) := rfl
-- the values' own types
def rd_L3 (xs : List (List Int)) (i : Int) : (List Int) := xs.getD i.toNat ([] : List Int)
theorem at_L3 {w : World} {A : Option Addr} {n : Nat} {xs : List (List Int)} (h : Kd.C (Kd.slice 104 (Kd.int .u16)) w A n xs) (i : Int) (h0 : 0 ≤ i) (h1 : i < n) : ∃ ad A0 c0, A = some ad ∧ w.cell? (ad.add i.toNat) = some (.slice A0 (rd_L3 xs i).length c0) ∧ (rd_L3 xs i).length ≤ c0 ∧ (Kd.int .u16).C w A0 (rd_L3 xs i).length (rd_L3 xs i) := by
 obtain ⟨ad, c, e, _, hK, hc0⟩ := Kd.C_get h ([] : List Int) i h0 h1
 have hc : ∀ j u, c[j]? = some u → w.cell? (ad.add (i.toNat * 1 + j)) = some u := hc0
 obtain ⟨A0, c0, rfl, l0, g0⟩ := hK
 exact ⟨ad, A0, c0, e, by have hq := hc 0 _ rfl; rwa [Nat.mul_one, Nat.add_zero] at hq, l0, g0⟩
end Go.Proofs.Ytdgkppldopiaoaa.PH
namespace Go.Proofs.Ytdgkppldopiaoaa.PH
open YtdgkppldopiaoaaF
attribute [local go_sem high] run_feq run_fne run_flt_lt run_flt_le run_flt_gt run_flt_ge
open Go.RowKit YtdgkppldopiaoaaW.PrintWords YtdgkppldopiaoaaW.PrintLast YtdgkppldopiaoaaW.PrintMore
attribute [local go_sem] max2_int min2_int max_two min_two max_three min_three max_four min_four
def slices_Max_int_int.l0 : Nat → List Int → Int → Int → Option (Int)
 | 0, _, _, _ => none
 | k + 1, x0, x3, x4 => if x4 < (x0.length : Int) then (if 0 ≤ x4 then (slices_Max_int_int.l0 k x0 (mx x3 (rd x0 x4)) (wrap64 (x4 + 1))) else (none)) else (some x3)
def slices_Max_int_int.f (k : Nat) (l0 : List Int) : Option (Int) := if (l0.length : Int) < 1 then (none) else (if 0 < (l0.length : Int) then (slices_Max_int_int.l0 k l0 (rd l0 0) 1) else (none))
theorem slices_Max_int_int.calls (k : Nat) (A0 : Option Addr) (c0 : Nat) (l0 : List Int) (r : Int) (w : World) (hr0 : Kd.C (Kd.int .i64) w A0 l0.length l0) (hc0 : l0.length ≤ c0) (h : slices_Max_int_int.f k l0 = some r) :
  Calls Try.prog 45 #[.slice A0 l0.length c0] w fun e w' => e = .returned (.int .i64 r) ∧ Below w.heap.size w w' := by
 have HR0 := jA hr0
 have HC0 := jA hc0
 clear hr0 hc0
 have HB := jA (Below.refl w.heap.size w)
 have H : (if (l0.length : Int) < 1 then (none) else (if 0 < (l0.length : Int) then (slices_Max_int_int.l0 k l0 (rd l0 0) 1) else (none))) = some r := h
 clear h
 by_cases c2 : (l0.length : Int) < 1
 ·rw [if_pos c2] at H
  exact absurd H (by simp)
 ·rw [if_neg c2] at H
  have c2b0 : decide ((l0.length : Int) < 1) = false := decide_eq_false c2
  have c2b1 : decide (l0.length < 1) = false := decide_eq_false (by omega)
  clear c2
  by_cases c3 : 0 < (l0.length : Int)
  ·rw [if_pos c3] at H
   have c3b0 : decide (0 < (l0.length : Int)) = true := decide_eq_true c3
   have c3b1 : decide (0 < l0.length) = true := decide_eq_true (by omega)
   clear c3
   have H' := jA H
   clear H
   have Ze : 0 ≤ (0 : Int) := (by omega)
   have Zf : 0 < (l0.length : Int) := of_decide_eq_true (by first | (with_reducible assumption) | assumption)
   obtain ⟨Zj, Zl, Zb⟩ := Kd.at_int HR0.out 0 Ze Zf
   cases Zl
   have Zn : (0 < l0.length) = True := eq_true (by omega)
   (try rw [show ((0 : Int)).toNat = 0 from rfl] at Zb)
   (try rw [Addr.add_zero'] at Zb)
   replace Ze := eq_true Ze
   replace Zf := eq_true Zf
   go_enter Try.func45, Try.ntmps45
   go_wp2
   go_loopg [3, 4] k (fun kq v3 v4 w' => ∃ (Zd : Int) (Za : Int), v3 = .int .i64 Zd ∧ v4 = .int .i64 Za ∧ Aside0 (slices_Max_int_int.l0 kq l0 Zd Za = some r) ∧ Aside0 (kq ≤ k) ∧ Aside0 (Below w.heap.size w w'))
   case atStart => exact ⟨(rd l0 0), (1), (by first | rfl | (simp; done) | (simp [*]; done)), (by first | rfl | (simp; done) | (simp [*]; done)), H', ⟨Nat.le_refl _⟩, ⟨by repeat (first | (with_reducible first | exact HB.out | apply below_alloc | apply pw_below_drewN | apply below_drew1) | exact HB.out)⟩⟩
   case round =>
    clear H'
    try clear p1
    try clear q1
    try clear hx1
    try clear qi1
    try clear c2
    try clear c2b0
    try clear c2b1
    try clear p2
    try clear c3
    try clear c3b0
    try clear c3b1
    try clear Zb
    try clear Ze
    try clear Zf
    obtain ⟨Zd, Za, rfl, rfl, HA, HK1, HB⟩ := hrel
    cases gk with
    | zero => exact absurd HA.out (by simp [slices_Max_int_int.l0])
    | succ k1 =>
     have H := HA.out
     clear HA
     simp only [slices_Max_int_int.l0] at H
     by_cases c4 : Za < (l0.length : Int)
     ·rw [if_pos c4] at H
      have c4b0 : decide (Za < (l0.length : Int)) = true := decide_eq_true c4
      clear c4
      by_cases c5 : 0 ≤ Za
      ·rw [if_pos c5] at H
       have c5b0 : decide (0 ≤ Za) = true := decide_eq_true c5
       clear c5
       obtain ⟨ji6, Zg⟩ : ∃ j_ : Int, (mx Zd (rd l0 Za)) = j_ := ⟨_, rfl⟩
       replace H : (slices_Max_int_int.l0 k1 l0 ji6 (wrap64 (Za + 1))) = some r := by first | (rw [Zg] at H; exact H) | (simp only [Zg] at H ⊢; exact H)
       have Zo : (if Zd < (rd l0 Za) then (rd l0 Za) else Zd) = ji6 := Zg
       have H' := jA H
       clear H
       have Zh : 0 ≤ (Za : Int) := of_decide_eq_true (by first | (with_reducible assumption) | assumption)
       have Zi : Za < (l0.length : Int) := of_decide_eq_true (by first | (with_reducible assumption) | assumption)
       obtain ⟨Zk, Zm, Zc⟩ := Kd.at_int HR0.out Za Zh Zi
       obtain rfl : Zj = Zk := (by injection Zm)
       replace Zc := (HB.out.cell (World.block_lt_of_cell? w _ Zc)).trans Zc
       replace Zh := eq_true Zh
       replace Zi := eq_true Zi
       go_wp2
       go_roundg k1
       case measure => have := HK1.out; omega
       case rel => exact ⟨(ji6), (wrap64 (Za + 1)), (by first | rfl | (simp; done) | (simp only [← Zg] <;> (first | rfl | simp)) | (simp [*]; done)), (by first | rfl | (simp; done) | (simp [*]; done)), H', ⟨by have := HK1.out; omega⟩, ⟨by repeat (first | (with_reducible first | exact HB.out | apply below_alloc | apply pw_below_drewN | apply below_drew1) | exact HB.out)⟩⟩
      ·rw [if_neg c5] at H
       exact absurd H (by simp)
     ·rw [if_neg c4] at H
      have c4b0 : decide (Za < (l0.length : Int)) = false := decide_eq_false c4
      clear c4
      obtain rfl := Option.some.inj H
      go_wp2
      go_ret
      exact ⟨by first | rfl | (simp [errW_none, errW_some] <;> rfl) | (simp [*, errW_none, errW_some] <;> rfl), by repeat (first | (with_reducible first | exact HB.out | apply below_alloc | apply pw_below_drewN | apply below_drew1) | exact HB.out)⟩
  ·rw [if_neg c3] at H
   exact absurd H (by simp)
end Go.Proofs.Ytdgkppldopiaoaa.PH
namespace Go.Proofs.Ytdgkppldopiaoaa.PH
open YtdgkppldopiaoaaF
attribute [local go_sem high] run_feq run_fne run_flt_lt run_flt_le run_flt_gt run_flt_ge
open Go.RowKit YtdgkppldopiaoaaW.PrintWords YtdgkppldopiaoaaW.PrintLast YtdgkppldopiaoaaW.PrintMore
attribute [local go_sem] max2_int min2_int max_two min_two max_three min_three max_four min_four
def page_classes.f (k : Nat) (l0 : List Int) : Option (Int) := if (l0.length : Int) = 0 then (some 0) else ((slices_Max_int_int.f k l0).bind fun Za => (some Za))
theorem page_classes.calls (k : Nat) (A0 : Option Addr) (c0 : Nat) (l0 : List Int) (r : Int) (w : World) (hr0 : Kd.C (Kd.int .i64) w A0 l0.length l0) (hc0 : l0.length ≤ c0) (h : page_classes.f k l0 = some r) :
  Calls Try.prog 26 #[.slice A0 l0.length c0] w fun e w' => e = .returned (.int .i64 r) ∧ Below w.heap.size w w' := by
 have HR0 := jA hr0
 have HC0 := jA hc0
 clear hr0 hc0
 have HB := jA (Below.refl w.heap.size w)
 have H : (if (l0.length : Int) = 0 then (some 0) else ((slices_Max_int_int.f k l0).bind fun Za => (some Za))) = some r := h
 clear h
 by_cases c2 : (l0.length : Int) = 0
 ·rw [if_pos c2] at H
  have c2b0 : ((l0.length : Int) == 0) = true := beq_iff_eq.mpr c2
  have c2b1 : ((l0.length : Int) != 0) = false := bne_eq_false_iff_eq.mpr c2
  clear c2
  obtain rfl := Option.some.inj H
  go_enter Try.func26, Try.ntmps26
  go_wp2
  go_ret
  exact ⟨by first | rfl | (simp [errW_none, errW_some] <;> rfl) | (simp [*, errW_none, errW_some] <;> rfl), by repeat (first | (with_reducible first | exact HB.out | apply below_alloc | apply pw_below_drewN | apply below_drew1) | exact HB.out)⟩
 ·rw [if_neg c2] at H
  have c2b0 : ((l0.length : Int) == 0) = false := beq_eq_false_iff_ne.mpr c2
  have c2b1 : ((l0.length : Int) != 0) = true := bne_iff_ne.mpr c2
  have c2b2 : ¬ (l0 = []) := fun h_ => c2 (by rw [h_]; rfl)
  replace H := Option.bind_eq_some_iff.mp H
  obtain ⟨Za, A30, H⟩ := H
  replace H : (some Za) = some r := H
  have A3 := jA A30
  clear A30
  obtain rfl := Option.some.inj H
  go_enter Try.func26, Try.ntmps26
  go_wp2_with (first | ((with_reducible refine gate_callee (f := 45) rfl ?_); refine goesL_ (some 7) rfl rfl Try.func45 (by kernel_rfl) rfl #[.slice A0 l0.length c0] rfl (by (try simp only [List.map_toArray, List.map_cons, List.map_nil]); first | done | rfl | (simp only [List.length_drop, List.length_take]; rfl)) ?_; (with_reducible refine (slices_Max_int_int.calls k _ _ l0 Za _ ?Zb ?Zc A3.out).mono ?_); (case Zb => repeat (first | exact HR0.out | (with_reducible refine Kd.C_alloc ?_ _) | (with_reducible refine Kd.C_drewN ?_ _) | (with_reducible refine Kd.C_drew ?_))); (case Zc => exact HC0.out); rintro e w4 ⟨rfl, hb⟩; refine ⟨_, rfl, ?_⟩; have n0_ := jA (below_step (by repeat (first | (with_reducible first | exact HB.out | apply below_alloc | apply pw_below_drewN | apply below_drew1) | exact HB.out)) hb); clear HB; have HB := n0_; clear n0_; (try clear hb); (try clear hb2); (try clear hk); (try clear hi)))
  go_ret
  exact ⟨by first | rfl | (simp [errW_none, errW_some] <;> rfl) | (simp [*, errW_none, errW_some] <;> rfl), by repeat (first | (with_reducible first | exact HB.out | apply below_alloc | apply pw_below_drewN | apply below_drew1) | exact HB.out)⟩
end Go.Proofs.Ytdgkppldopiaoaa.PH
/- page.Size, page.room of the graph of one("ann"), walked. -/
namespace Go.Proofs.Ytdgkppldopiaoaa.RPage
open Go.RowKit YtdgkppldopiaoaaW.PrintWords YtdgkppldopiaoaaW.PrintLast YtdgkppldopiaoaaW.PrintMore BMap BRow GDiffer GValid VPure MLines MPol MPut RMem RCells REpoch RMach RCput RRun RIndex ROne Go.Maps
open PG
set_option maxHeartbeats 1000000
set_option maxRecDepth 100000
structure Ad where
 A0 : Option Addr
 c0 : Nat
 A1 : Option Addr
 c1 : Nat
 A2 : Option Addr
 c2 : Nat
 A3 : Option Addr
 c3 : Nat
 A4 : Option Addr
 c4 : Nat
 A5 : Option Addr
 c5 : Nat
def Ad.g (a : Ad) : G := ⟨a.A0, a.c0, [bOpen], a.A1, a.c1, [bAnn, bBob], a.A2, a.c2, [bDoor], a.A3, a.c3, [1, 2], a.A4, a.c4, [1], a.A5, a.c5, [[1], [0]]⟩
def Ad.v (a : Ad) : Array Value := #[.slice a.A0 1 a.c0, .slice a.A1 2 a.c1, .slice a.A2 1 a.c2, .slice a.A3 2 a.c3, .slice a.A4 1 a.c4, .slice a.A5 2 a.c5]
theorem G1.ad {g : G} (h : G1 g) : ∃ a : Ad, g = a.g := by
 obtain ⟨A0, c0, la, A1, c1, ls, A2, c2, lo, A3, c3, of, A4, c4, on, A5, c5, ms⟩ := g
 obtain ⟨h0, h1, h2, h3, h4, h5⟩ := h
 simp only at h0 h1 h2 h3 h4 h5
 subst h0 h1 h2 h3 h4 h5
 exact ⟨⟨A0, c0, A1, c1, A2, c2, A3, c3, A4, c4, A5, c5⟩, rfl⟩
open Classical in
theorem is_valid1 : validB [bOpen] [bAnn, bBob] [bDoor] [1, 2] [1] [[1], [0]] = true := by
 refine decide_eq_true ?_
 unfold validP
 refine ⟨by decide, by decide, by decide, rfl, rfl, by decide +kernel, by decide +kernel, by decide +kernel, 2, 1, by decide +kernel, by decide +kernel, ⟨rfl, ?_⟩, by decide +kernel, by decide +kernel⟩
 intro row hr
 have hr : row = [1] ∨ row = [0] := by simpa using hr
 rcases hr with rfl | rfl
 ·refine ⟨rfl, fun x hx => ?_⟩
  rw [List.mem_singleton.1 hx]
  decide
 ·refine ⟨rfl, fun x hx => ?_⟩
  rw [List.mem_singleton.1 hx]
  decide
theorem valid1 (a : Ad) (w : World) (h : a.g.In w) : Calls Try.prog 22 #[.agg a.v] w fun e w' => e = .returned (.bool true) ∧ Below w.heap.size w w' := by
 have := valid_calls a.g w h
 rw [show validB a.g.la a.g.ls a.g.lo a.g.of a.g.on a.g.ms = true from is_valid1] at this
 exact this
theorem places1 (a : Ad) (w : World) (h : a.g.In w) : Calls Try.prog 24 #[.agg a.v] w fun e w' => e = .returned (.int .i64 8) ∧ Below w.heap.size w w' :=
 page_places.calls 10 a.A0 a.c0 [bOpen] a.A1 a.c1 [bAnn, bBob] a.A2 a.c2 [bDoor] a.A3 a.c3 [1, 2] a.A4 a.c4 [1] a.A5 a.c5 [[1], [0]] 8 w h.h0 h.l0 h.h1 h.l1 h.h2 h.l2 h.h3 h.l3 h.h4 h.l4 h.h5 h.l5 (by kernel_rfl)
theorem class3 (a : Ad) (w : World) (h : a.g.In w) : Calls Try.prog 26 #[.slice a.A3 2 a.c3] w fun e w' => e = .returned (.int .i64 2) ∧ Below w.heap.size w w' :=
 PH.page_classes.calls 10 a.A3 a.c3 [1, 2] 2 w h.h3 h.l3 (by kernel_rfl)
theorem class4 (a : Ad) (w : World) (h : a.g.In w) : Calls Try.prog 26 #[.slice a.A4 1 a.c4] w fun e w' => e = .returned (.int .i64 1) ∧ Below w.heap.size w w' :=
 PH.page_classes.calls 10 a.A4 a.c4 [1] 1 w h.h4 h.l4 (by kernel_rfl)
theorem i59 : (Try.prog.info? 59).map (·.size) = some 6 := by kernel_rfl
theorem boxB {w w1 : World} {b : Nat} {cs : Array Value} {t : TypeId} (h : w.heap[b]? = some (.cells cs t (0, 0))) (hb : Below w.heap.size w w1) : w1.heap[b]? = some (.cells cs t (0, 0)) := (hb.block _ (Array.getElem?_eq_some_iff.1 h).1).trans h
theorem size_calls (a : Ad) (w : World) (h : a.g.In w) : Calls Try.prog 25 #[.agg a.v] w fun e w' => e = .returned (.int .i64 22) ∧ Below w.heap.size w w' := by
 obtain ⟨w1, hw1⟩ : ∃ q, q = w.alloc (.cells a.v 59) := ⟨_, rfl⟩
 have hb1 : Below w.heap.size w w1 := by rw [hw1]; exact below_alloc (Below.refl _ _) _
 have ht1 : w1.heap[w.heap.size]? = some (.cells a.v 59 (0, 0)) := by rw [hw1]; exact heap_alloc_new w _
 have hg1 := h.below hb1
 have HQ1 := jA (valid1 a w1 hg1)
 have HG1 := jA hg1
 have HT1 := jA ht1
 have HB1 := jA hb1
 have HC1 := jA (cells7 (vs := a.v.toList) ht1)
 have HI := jA (show (Try.prog.info? 59).map (·.size) = some a.v.toList.length from i59)
 have HW1 := jA hw1
 clear hb1 ht1 hg1 hw1 h
 obtain ⟨av, hav⟩ : ∃ q, q = a.v := ⟨_, rfl⟩
 have HAV := jA hav
 rw [← hav] at HQ1 HT1 HC1 HI HW1 ⊢
 clear hav
 go_enter Try.func25, Try.ntmps25
 go_upto_region 1 with fail
 rw [← HW1.out]
 go_upto_region 3 with (first | ((with_reducible refine gate_dst (N := 3) rfl ?_); refine wpList_load_at rfl 59 (.tmp 1) rfl ⟨w.heap.size, 0, none⟩ ?hx av.toList HC1.out _ Try.underlying59 rfl HI.out ?_; (case hx => rfl)) | (go_at_call 22; (refine HQ1.out.mono ?_); rintro e w2 ⟨rfl, hb2⟩; have HB2 := jA hb2; clear hb2))
 have hT2 := boxB HT1.out HB2.out
 have hg2 := HG1.out.below HB2.out
 have HQ2 := jA (show Calls Try.prog 24 #[.agg av] w2.drew _ from by rw [HAV.out]; exact places1 a w2.drew hg2.drew)
 have hB2 := below_drew (below_then HB1.out HB1.out.size HB2.out)
 have HG2 := jA hg2
 have HB12 := jA hB2
 clear hg2 hB2
 refine start_ (n := 13) (S := fun w' => w'.heap[w.heap.size]? = some (.cells av 59 (0, 0))) (ds := []) (Jb 13 0) (by kernel_rfl) rfl (by kernel_rfl) hT2 (fun hHeld => ?_)
 refine Jk 0 6 (Jb 13 1) rfl rfl hHeld (.inl ⟨by rfl, by rintro w' s0; exact exec_load_at 59 _ rfl ⟨w.heap.size, 0, none⟩ rfl av.toList (cells7 (vs := av.toList) s0) _ Try.underlying59 rfl HI.out⟩) ?_
 refine Jp 4 10 (Jb 13 17) rfl rfl ?_
 refine Jk 5 11 (Jb 13 49) rfl rfl hHeld (.inl ⟨by rfl, by rintro w' s0; have cc := (cellOf s0 3 (.slice a.A3 2 a.c3) (by rw [HAV.out]; rfl)); go_simp; with_reducible rfl⟩) ?_
 refine Jp 7 13 (Jb 13 177) rfl rfl ?_
 refine Jk 8 14 (Jb 13 433) rfl rfl hHeld (.inl ⟨by rfl, by rintro w' s0; have cc := (cellOf s0 4 (.slice a.A4 1 a.c4) (by rw [HAV.out]; rfl)); go_simp; with_reducible rfl⟩) ?_
 refine one_ (i := 1) (N := some 7) (Jb 13 435) rfl rfl (by kernel_rfl) (by decide) (fun K hK => ?_)
 refine goes_ Try.func24 (by kernel_rfl) rfl #[.agg av] (by rfl) rfl rfl (by (try simp only [List.map_toArray, List.map_cons, List.map_nil]); first | done | rfl) ?_
 refine HQ2.out.mono ?_
 rintro e w3 ⟨rfl, hb3⟩
 refine ⟨_, rfl, ?_⟩
 have hT3 := boxB (show w2.drew.heap[w.heap.size]? = _ from hT2) hb3
 have HB3 := jA hb3
 refine hK.out _ _ hT3 (fun hHeld => ?_)
 clear hK K hb3
 refine norm_ (a' := ?_) ?_ ?_; rotate_left; (show Act.put _ (some 7) _ = _; simp only [Act.put, Jq, Jr, Js]; rfl)
 refine Jp 2 8 (Jb 13 439) rfl rfl ?_
 refine Jp 3 9 (Jb 13 447) rfl rfl ?_
 refine one_ (i := 6) (N := some 12) (Jb 13 511) rfl rfl (by kernel_rfl) (by decide) (fun K hK => ?_)
 refine goes_ Try.func26 (by kernel_rfl) rfl #[.slice a.A3 2 a.c3] (by rfl) rfl rfl (by (try simp only [List.map_toArray, List.map_cons, List.map_nil]); first | done | rfl) ?_
 refine (class3 a w3 (HG2.out.drew.below HB3.out)).mono ?_
 rintro e w4 ⟨rfl, hb4⟩
 refine ⟨_, rfl, ?_⟩
 have hT4 := boxB (show w3.heap[w.heap.size]? = _ from hT3) hb4
 have HB4 := jA hb4
 refine hK.out _ _ hT4 (fun hHeld => ?_)
 clear hK K hb4
 refine norm_ (a' := ?_) ?_ ?_; rotate_left; (show Act.put _ (some 12) _ = _; simp only [Act.put, Jq, Jr, Js]; rfl)
 refine one_ (i := 9) (N := some 15) (Jb 13 1023) rfl rfl (by kernel_rfl) (by decide) (fun K hK => ?_)
 refine goes_ Try.func26 (by kernel_rfl) rfl #[.slice a.A4 1 a.c4] (by rfl) rfl rfl (by (try simp only [List.map_toArray, List.map_cons, List.map_nil]); first | done | rfl) ?_
 refine (class4 a w4 ((HG2.out.drew.below HB3.out).below HB4.out)).mono ?_
 rintro e w5 ⟨rfl, hb5⟩
 refine ⟨_, rfl, ?_⟩
 have hT5 := boxB (show w4.heap[w.heap.size]? = _ from hT4) hb5
 have HB5 := jA hb5
 refine hK.out _ _ hT5 (fun hHeld => ?_)
 clear hK K hb5
 refine norm_ (a' := ?_) ?_ ?_; rotate_left; (show Act.put _ (some 15) _ = _; simp only [Act.put, Jq, Jr, Js]; rfl)
 refine Jp 10 16 (Jb 13 2047) rfl rfl ?_
 refine Jp 11 17 (Jb 13 4095) rfl rfl ?_
 refine Jp 12 2 (Jb 13 8191) rfl rfl ?_
 refine done_ (by kernel_rfl) ?_
 go_wp2
 go_ret
 exact ⟨rfl, below_then (below_then (below_then HB12.out HB12.out.size HB3.out) (below_then HB12.out HB12.out.size HB3.out).size HB4.out) (below_then (below_then HB12.out HB12.out.size HB3.out) (below_then HB12.out HB12.out.size HB3.out).size HB4.out).size HB5.out⟩
theorem ok4 : ∀ s, (s = bOpen ∨ s = bAnn ∨ s = bBob ∨ s = bDoor) → okS s := by
 rintro s (rfl | rfl | rfl | rfl) <;> decide
theorem look_false {w : World} {b n : Nat} {f : ByteArray → Option Int} (h : MapF Value.string (Value.int .i64) okS w b f n) (k : ByteArray) (hk : okS k) : (Instr.lookup 92 (.map (some b)) (.string k) false).run Try.prog w = .ok (.int .i64 ((f k).getD 0)) w := by
 have hq := h.lookup str_key Try.underlying92 (zero3 w) hk false
 have e : ((f k).map (Value.int IntKind.i64)).getD (.int .i64 0) = .int .i64 ((f k).getD 0) := by cases f k <;> rfl
 simpa only [Bool.false_eq_true, if_false, e] using hq
theorem idx0 (a : Ad) (W : World) : (Instr.index 131 (.agg #[.slice a.A0 1 a.c0, .slice a.A1 2 a.c1, .slice a.A2 1 a.c2]) (.int .i64 0)).run Try.prog W = .ok (.slice a.A0 1 a.c0) W := by rfl
theorem idx1 (a : Ad) (W : World) : (Instr.index 131 (.agg #[.slice a.A0 1 a.c0, .slice a.A1 2 a.c1, .slice a.A2 1 a.c2]) (.int .i64 1)).run Try.prog W = .ok (.slice a.A1 2 a.c1) W := by rfl
theorem idx2 (a : Ad) (W : World) : (Instr.index 131 (.agg #[.slice a.A0 1 a.c0, .slice a.A1 2 a.c1, .slice a.A2 1 a.c2]) (.int .i64 2)).run Try.prog W = .ok (.slice a.A2 1 a.c2) W := by rfl
def doneN (k : Nat) : Nat := if k = 0 then 0 else if k = 1 then 1 else if k = 2 then 3 else 4
theorem room_calls (a : Ad) (F : Nat → Prop) (w : World) (bi bm : Nat) (v : Value) (q : Nat) (h : a.g.In w) (hI : Ix F w bi bm [] v q) : Calls Try.prog 23 #[.agg a.v, .pointer (some ⟨bi, 0, none⟩)] w fun e w' => e = .returned (.bool true) ∧ Below w.heap.size w w' := by
 obtain ⟨w2, hw2⟩ : ∃ q, q = (w.alloc (.cells a.v 59)).alloc (.map #[] 0) := ⟨_, rfl⟩
 have hz1 : (w.alloc (.cells a.v 59)).heap.size = w.heap.size + 1 := Array.size_push _
 have hb2 : Below w.heap.size w w2 := by rw [hw2]; exact below_alloc (below_alloc (Below.refl _ _) _) _
 have ht2 : w2.heap[w.heap.size]? = some (.cells a.v 59 (0, 0)) := by rw [hw2]; exact (Below.heap_alloc _ _ _ (by rw [hz1]; omega)).trans (heap_alloc_new w _)
 have hM2 : MapF Value.string (Value.int .i64) okS w2 (w.heap.size + 1) (fun _ => none) 0 := by rw [hw2, ← hz1]; exact MapF.made _
 have x0 := cellOf ht2 0 (.slice a.A0 1 a.c0) rfl
 have x1 := cellOf ht2 1 (.slice a.A1 2 a.c1) rfl
 have x2 := cellOf ht2 2 (.slice a.A2 1 a.c2) rfl
 have HW2 := jA hw2
 have HZ1 := jA hz1
 have HB2 := jA hb2
 have HM2 := jA hM2
 have HG := jA h
 have HI := jA hI
 have hmm := @run_makeMap Try.prog
 obtain ⟨av, hav⟩ : ∃ q, q = a.v := ⟨_, rfl⟩
 have HAV := jA hav
 rw [← hav] at HW2 HZ1 ⊢
 clear hav hw2 hz1 hb2 ht2 hM2 h hI
 go_enter Try.func23, Try.ntmps23
 go_upto_region 2 with fail
 (try rw [HZ1.out])
 rw [← HW2.out]
 clear hmm
 go_wp2
 go_loopw [20] (fun u wr => ∃ (k : Nat) (f : ByteArray → Option Int) (n : Nat), k ≤ 3 ∧ u = .int .i64 k ∧ n ≤ doneN k ∧ Aside0 (MapF Value.string (Value.int .i64) okS wr (w.heap.size + 1) f n ∧ Below w.heap.size w wr)) (fun u _ => 3 - (intOf u).toNat)
 case atStart => exact ⟨0, _, 0, by omega, rfl, Nat.zero_le _, ⟨HM2.out, HB2.out⟩⟩
 case round =>
  obtain ⟨k, f, n, hk, rfl, hn, HR⟩ := hrel
  rcases (by omega : k = 0 ∨ k = 1 ∨ k = 2 ∨ k = 3) with rfl | rfl | rfl | rfl
  ·have HC := jA (HG.out.h0)
   have hok : ∀ s ∈ ([bOpen] : List ByteArray), okS s := by intro s hs; exact ok4 s (by simp at hs; first | (rcases hs with rfl | rfl <;> simp) | (rcases hs with rfl; simp))
   have HOK := jA hok
   clear hok
   have hidx := idx0 a
   go_wp2
   clear hidx
   go_loopw [25] (fun u wj => ∃ (j : Nat) (f : ByteArray → Option Int) (n : Nat), j ≤ 1 ∧ u = .int .i64 j ∧ n ≤ doneN 0 + j ∧ Aside0 (MapF Value.string (Value.int .i64) okS wj (w.heap.size + 1) f n ∧ Below w.heap.size w wj)) (fun u _ => 1 - (intOf u).toNat)
   case atStart => exact ⟨0, f, n, by omega, rfl, hn, HR⟩
   case round =>
    obtain ⟨j, f2, n2, hj, rfl, hn2, HJ⟩ := hrel
    by_cases hlt : j < 1
    ·obtain ⟨ad, e0, hx⟩ := Kd.at_string (xs := [bOpen]) (Kd.C_below HC.out HJ.out.2) (j : Int) (by omega) (by show (j : Int) < 1; omega)
     have e0' : a.A0 = some ad := e0
     obtain ⟨x, hxx⟩ : ∃ x, x = rdOf ByteArray.empty [bOpen] (j : Int) := ⟨_, rfl⟩
     have hxo : okS x := by
      refine HOK.out x ?_
      rw [hxx]
      have : ([bOpen] : List ByteArray).getD j ByteArray.empty ∈ ([bOpen] : List ByteArray) := by
       rw [List.getD_eq_getElem?_getD, List.getElem?_eq_getElem (by show j < 1; omega)]
       exact List.getElem_mem _
      simpa [rdOf] using this
     rw [← hxx] at hx
     simp only [Int.toNat_natCast] at hx
     have HX := jA hxo
     have hlk := look_false HJ.out.1 x hxo
     have HF := jA (find_calls F wr bi bm [] v q (HI.out.below HJ.out.2) x hxo)
     obtain ⟨y, hy⟩ : ∃ y, y = (f2 x).getD 0 := ⟨_, rfl⟩
     rw [← hy] at hlk
     obtain ⟨w6, hrun, hM6, hg6⟩ := HJ.out.1.update str_key Try.underlying92 hxo (wrap64 (y + 1))
     have hrun' : (Instr.mapUpdate 92 (.map (some (w.heap.size + 1))) (.string x) (.int .i64 (wrap64 (y + 1)))).run Try.prog wr = .ok () w6 := hrun
     have HM6 := jA hM6
     have HB6 := jA (HJ.out.2.grown hg6 HJ.out.2.size (fun k hk => by cases hk; omega))
     have c0' : (j : Int) < 1 := by omega
     rw [e0'] at *
     clear hxx hxo hM6 hg6 hrun hy e0 e0'
     go_wp2_with (first | (go_at_call 43; (refine HF.out.mono ?_); rintro e w5 ⟨rfl, rfl⟩; (try simp only [show ixF [] x = none from rfl, Option.getD_none, Option.isSome_none])))
     go_roundw
     case rel => exact ⟨j + 1, _, _, by omega, by go_num, by split <;> omega, ⟨HM6.out, HB6.out⟩⟩
     case measure => simp [intOf]; omega
    ·have hjj : j = 1 := by omega
     subst hjj
     go_wp2
     go_roundw
     case rel => exact ⟨1, f2, n2, by omega, by first | rfl | go_num, (show n2 ≤ 1 from hn2), HJ⟩
     case measure => simp [intOf]
  ·have HC := jA (HG.out.h1)
   have hok : ∀ s ∈ ([bAnn, bBob] : List ByteArray), okS s := by intro s hs; exact ok4 s (by simp at hs; first | (rcases hs with rfl | rfl <;> simp) | (rcases hs with rfl; simp))
   have HOK := jA hok
   clear hok
   have hidx := idx1 a
   go_wp2
   clear hidx
   go_loopw [25] (fun u wj => ∃ (j : Nat) (f : ByteArray → Option Int) (n : Nat), j ≤ 2 ∧ u = .int .i64 j ∧ n ≤ doneN 1 + j ∧ Aside0 (MapF Value.string (Value.int .i64) okS wj (w.heap.size + 1) f n ∧ Below w.heap.size w wj)) (fun u _ => 2 - (intOf u).toNat)
   case atStart => exact ⟨0, f, n, by omega, rfl, hn, HR⟩
   case round =>
    obtain ⟨j, f2, n2, hj, rfl, hn2, HJ⟩ := hrel
    by_cases hlt : j < 2
    ·obtain ⟨ad, e0, hx⟩ := Kd.at_string (xs := [bAnn, bBob]) (Kd.C_below HC.out HJ.out.2) (j : Int) (by omega) (by show (j : Int) < 2; omega)
     have e0' : a.A1 = some ad := e0
     obtain ⟨x, hxx⟩ : ∃ x, x = rdOf ByteArray.empty [bAnn, bBob] (j : Int) := ⟨_, rfl⟩
     have hxo : okS x := by
      refine HOK.out x ?_
      rw [hxx]
      have : ([bAnn, bBob] : List ByteArray).getD j ByteArray.empty ∈ ([bAnn, bBob] : List ByteArray) := by
       rw [List.getD_eq_getElem?_getD, List.getElem?_eq_getElem (by show j < 2; omega)]
       exact List.getElem_mem _
      simpa [rdOf] using this
     rw [← hxx] at hx
     simp only [Int.toNat_natCast] at hx
     have HX := jA hxo
     have hlk := look_false HJ.out.1 x hxo
     have HF := jA (find_calls F wr bi bm [] v q (HI.out.below HJ.out.2) x hxo)
     obtain ⟨y, hy⟩ : ∃ y, y = (f2 x).getD 0 := ⟨_, rfl⟩
     rw [← hy] at hlk
     obtain ⟨w6, hrun, hM6, hg6⟩ := HJ.out.1.update str_key Try.underlying92 hxo (wrap64 (y + 1))
     have hrun' : (Instr.mapUpdate 92 (.map (some (w.heap.size + 1))) (.string x) (.int .i64 (wrap64 (y + 1)))).run Try.prog wr = .ok () w6 := hrun
     have HM6 := jA hM6
     have HB6 := jA (HJ.out.2.grown hg6 HJ.out.2.size (fun k hk => by cases hk; omega))
     have c0' : (j : Int) < 2 := by omega
     rw [e0'] at *
     clear hxx hxo hM6 hg6 hrun hy e0 e0'
     go_wp2_with (first | (go_at_call 43; (refine HF.out.mono ?_); rintro e w5 ⟨rfl, rfl⟩; (try simp only [show ixF [] x = none from rfl, Option.getD_none, Option.isSome_none])))
     go_roundw
     case rel => exact ⟨j + 1, _, _, by omega, by go_num, by split <;> omega, ⟨HM6.out, HB6.out⟩⟩
     case measure => simp [intOf]; omega
    ·have hjj : j = 2 := by omega
     subst hjj
     go_wp2
     go_roundw
     case rel => exact ⟨2, f2, n2, by omega, by first | rfl | go_num, (show n2 ≤ 3 from hn2), HJ⟩
     case measure => simp [intOf]
  ·have HC := jA (HG.out.h2)
   have hok : ∀ s ∈ ([bDoor] : List ByteArray), okS s := by intro s hs; exact ok4 s (by simp at hs; first | (rcases hs with rfl | rfl <;> simp) | (rcases hs with rfl; simp))
   have HOK := jA hok
   clear hok
   have hidx := idx2 a
   go_wp2
   clear hidx
   go_loopw [25] (fun u wj => ∃ (j : Nat) (f : ByteArray → Option Int) (n : Nat), j ≤ 1 ∧ u = .int .i64 j ∧ n ≤ doneN 2 + j ∧ Aside0 (MapF Value.string (Value.int .i64) okS wj (w.heap.size + 1) f n ∧ Below w.heap.size w wj)) (fun u _ => 1 - (intOf u).toNat)
   case atStart => exact ⟨0, f, n, by omega, rfl, hn, HR⟩
   case round =>
    obtain ⟨j, f2, n2, hj, rfl, hn2, HJ⟩ := hrel
    by_cases hlt : j < 1
    ·obtain ⟨ad, e0, hx⟩ := Kd.at_string (xs := [bDoor]) (Kd.C_below HC.out HJ.out.2) (j : Int) (by omega) (by show (j : Int) < 1; omega)
     have e0' : a.A2 = some ad := e0
     obtain ⟨x, hxx⟩ : ∃ x, x = rdOf ByteArray.empty [bDoor] (j : Int) := ⟨_, rfl⟩
     have hxo : okS x := by
      refine HOK.out x ?_
      rw [hxx]
      have : ([bDoor] : List ByteArray).getD j ByteArray.empty ∈ ([bDoor] : List ByteArray) := by
       rw [List.getD_eq_getElem?_getD, List.getElem?_eq_getElem (by show j < 1; omega)]
       exact List.getElem_mem _
      simpa [rdOf] using this
     rw [← hxx] at hx
     simp only [Int.toNat_natCast] at hx
     have HX := jA hxo
     have hlk := look_false HJ.out.1 x hxo
     have HF := jA (find_calls F wr bi bm [] v q (HI.out.below HJ.out.2) x hxo)
     obtain ⟨y, hy⟩ : ∃ y, y = (f2 x).getD 0 := ⟨_, rfl⟩
     rw [← hy] at hlk
     obtain ⟨w6, hrun, hM6, hg6⟩ := HJ.out.1.update str_key Try.underlying92 hxo (wrap64 (y + 1))
     have hrun' : (Instr.mapUpdate 92 (.map (some (w.heap.size + 1))) (.string x) (.int .i64 (wrap64 (y + 1)))).run Try.prog wr = .ok () w6 := hrun
     have HM6 := jA hM6
     have HB6 := jA (HJ.out.2.grown hg6 HJ.out.2.size (fun k hk => by cases hk; omega))
     have c0' : (j : Int) < 1 := by omega
     rw [e0'] at *
     clear hxx hxo hM6 hg6 hrun hy e0 e0'
     go_wp2_with (first | (go_at_call 43; (refine HF.out.mono ?_); rintro e w5 ⟨rfl, rfl⟩; (try simp only [show ixF [] x = none from rfl, Option.getD_none, Option.isSome_none])))
     go_roundw
     case rel => exact ⟨j + 1, _, _, by omega, by go_num, by split <;> omega, ⟨HM6.out, HB6.out⟩⟩
     case measure => simp [intOf]; omega
    ·have hjj : j = 1 := by omega
     subst hjj
     go_wp2
     go_roundw
     case rel => exact ⟨3, f2, n2, by omega, by first | rfl | go_num, (show n2 ≤ 4 from hn2), HJ⟩
     case measure => simp [intOf]
  ·clear x0 x1 x2
   have hn4 : n ≤ 4 := hn
   have hlen := HR.out.1.len Try.underlying92 3
   have hL := HI.out.below HR.out.2
   have HL := jA (lenix_calls F wr bi bm [] v q hL)
   have hc1 : ¬ ((1048576 : Int) < (n : Int)) := by omega
   have hc2 : (n : Int) ≤ 1048576 := by omega
   have hc3 : n ≤ 1048576 := by omega
   clear hL
   go_wp2_with (first | (go_at_call 44; (refine HL.out.mono ?_); rintro e w5 ⟨rfl, rfl⟩))
   go_ret
   exact ⟨rfl, HR.out.2⟩
end Go.Proofs.Ytdgkppldopiaoaa.RPage
/- page.Lay's put, walked for the names of one("ann"). -/
namespace Go.Proofs.Ytdgkppldopiaoaa.RPput
open Go.RowKit YtdgkppldopiaoaaW.PrintWords YtdgkppldopiaoaaW.PrintLast YtdgkppldopiaoaaW.PrintMore BMap BRow GDiffer GValid MLines MPol MPut RMem RCells REpoch RMach RSeek RCput RRun RIndex ROne RPage Go.Maps
open PG
set_option maxHeartbeats 2000000
set_option maxRecDepth 100000
section
variable {P : Program} {ops : Array Oper} {Q : Exit → Act → World → Prop}
theorem goesV_ {oi : Oper} {N : Option Tmp} {a : Act} {w : World} {K : Act → World → Prop} {f : FuncId} {fn : Func} {ars : Array Operand} {ts : Array TypeId} (n : Tmp) (first cap : Array Value) (hf : P.funcs[f]? = some fn) (hname : (fn.name == "runtime.NumGoroutine") = false) (hb : fn.body.isSome = true) (args : Array Value)
  (hw : Region.wanted oi (yielded ops a.tmps) = true) (hN : oi.dst = N) (hop : oi.op = .call { callee := .value (.tmp n), args := ars, argTypes := ts }) (hv : a.eval (.tmp n) = .func (.func f) first cap) (hargs : first ++ ars.map a.eval ++ cap = args)
  (h : Calls P f args w fun e w' => ∃ v, e = .returned v ∧ K (a.put N v) w') : if Region.wanted oi (yielded ops a.tmps) = true then Oper.wp P oi a w K Q else K (a.put N undef) w := by
 refine call_ f args hw hN ?_ h
 have he := enters_ hf hname hb args w
 unfold execOp
 simp [hop, resolve, Deferred.ofValue, invoke, hv, hargs, he]
end
theorem num29 (w : World) (i r : Int) (h : wrap64 (i + 1) = r) : Calls Try.prog 29 #[.int .i64 i] w fun e w' => e = .returned (.int .i64 r) ∧ w' = w := by
 rw [← h]
 clear h
 go_enter Try.func29, Try.ntmps29
 go_wp2
 go_ret
 exact ⟨rfl, rfl⟩
theorem num30 (a : Ad) (w : World) (b : Nat) (h : w.heap[b]? = some (.cells a.v 59 (0, 0))) (hg : a.g.In w) (i : Nat) (hi : i < 2) (r : Int) (hr : rd [1, 2] (i : Int) = r) : Calls Try.prog 30 #[.int .i64 i, .pointer (some ⟨b, 0, none⟩)] w fun e w' => e = .returned (.int .i64 r) ∧ w' = w := by
 have c3 := cellOf h 3 (.slice a.A3 2 a.c3) rfl
 obtain ⟨ad, e0, hx⟩ := Kd.at_int (xs := [1, 2]) hg.h3 (i : Int) (by omega) (by show (i : Int) < 2; omega)
 have e0' : a.A3 = some ad := e0
 rw [hr] at hx
 simp only [Int.toNat_natCast] at hx
 have c0' : (i : Int) < 2 := by omega
 rw [e0'] at c3
 clear h hg e0 e0'
 go_enter Try.func30, Try.ntmps30
 go_wp2
 go_ret
 exact ⟨rfl, rfl⟩
theorem num31 (a : Ad) (w : World) (b : Nat) (h : w.heap[b]? = some (.cells a.v 59 (0, 0))) (hg : a.g.In w) (i : Nat) (hi : i < 1) (r : Int) (hr : rd [1] (i : Int) = r) : Calls Try.prog 31 #[.int .i64 i, .pointer (some ⟨b, 0, none⟩)] w fun e w' => e = .returned (.int .i64 r) ∧ w' = w := by
 have c3 := cellOf h 4 (.slice a.A4 1 a.c4) rfl
 obtain ⟨ad, e0, hx⟩ := Kd.at_int (xs := [1]) hg.h4 (i : Int) (by omega) (by show (i : Int) < 1; omega)
 have e0' : a.A4 = some ad := e0
 rw [hr] at hx
 simp only [Int.toNat_natCast] at hx
 have c0' : (i : Int) < 1 := by omega
 rw [e0'] at c3
 clear h hg e0 e0'
 go_enter Try.func31, Try.ntmps31
 go_wp2
 go_ret
 exact ⟨rfl, rfl⟩
structure Pst (F : Nat → Prop) (w : World) (bi bm b5 b8 b9 bp : Nat) (ws : List Int) (L : List ByteArray) : Prop where
 x : w.heap[b5]? = some (.cells #[.pointer (some ⟨bi, 0, none⟩)] 47 (0, 0))
 t : w.heap[b8]? = some (.cells #[.int .i64 8] 3 (0, 0))
 p : w.heap[b9]? = some (.cells #[.slice (some ⟨bp, 0, none⟩) 20 22] 49 (0, 0))
 pg : w.heap[bp]? = some (.cells (wordsV ws) 3 (0, 0))
 ix : IxE F w bi bm L
 f5 : F b5
 f8 : F b8
 f9 : F b9
 fp : F bp
 n5 : b5 ≠ bp
 n8 : b8 ≠ bp
 n9 : b9 ≠ bp
 len : ws.length = 22
theorem kb {F : Nat → Prop} {w w1 : World} {k : Nat} {cs : Array Value} {t : TypeId} (hk : Keep F w w1) (hF : F k) (h : w.heap[k]? = some (.cells cs t (0, 0))) : w1.heap[k]? = some (.cells cs t (0, 0)) := (hk.at_ _ (Array.getElem?_eq_some_iff.1 h).1 hF).trans h
theorem _root_.Go.Proofs.Ytdgkppldopiaoaa.RIndex.Ix.far {F : Nat → Prop} {w : World} {bi bm : Nat} {L : List ByteArray} {v : Value} {n : Nat} (h : Ix F w bi bm L v n) {p : Addr} (hp : F p.block) (u : Value) : Ix F (w.setCell p u) bi bm L v n :=
 { h with var := (Below.heap_setCell _ _ _ _ (fun e => h.fi (by rw [e]; exact hp))).trans h.var, map := h.map.setCell (fun e => h.fm (by rw [← e]; exact hp)) u, row := Kd.R_far h.row (fun k hk e => hk.2.2 (by rw [e]; exact hp)) u, lt := fun k hk => by simpa [World.setCell] using h.lt k hk }
theorem Pst.next {F : Nat → Prop} {w w1 : World} {bi bm b5 b8 b9 bp : Nat} {ws : List Int} {L L' : List ByteArray} (h : Pst F w bi bm b5 b8 b9 bp ws L) (hk : Keep F w w1) (hi : IxE F w1 bi bm L') : Pst F w1 bi bm b5 b8 b9 bp ws L' :=
 { h with x := kb hk h.f5 h.x, t := kb hk h.f8 h.t, p := kb hk h.f9 h.p, pg := kb hk h.fp h.pg, ix := hi }
theorem Pst.drew {F : Nat → Prop} {w : World} {bi bm b5 b8 b9 bp : Nat} {ws : List Int} {L : List ByteArray} (h : Pst F w bi bm b5 b8 b9 bp ws L) : Pst F w.drew bi bm b5 b8 b9 bp ws L := by
 obtain ⟨v, n, hI⟩ := h.ix
 exact { h with ix := ⟨v, n, hI.below (below_drew (Below.refl _ _))⟩ }
theorem Pst.word {F : Nat → Prop} {w : World} {bi bm b5 b8 b9 bp : Nat} {ws : List Int} {L : List ByteArray} (h : Pst F w bi bm b5 b8 b9 bp ws L) (k : Nat) (v : Int) : Pst F (w.setCell ⟨bp, k, none⟩ (.int .i64 v)) bi bm b5 b8 b9 bp (ws.set k v) L := by
 obtain ⟨u, n, hI⟩ := h.ix
 exact { h with
  x := (Below.heap_setCell _ _ _ _ h.n5).trans h.x
  t := (Below.heap_setCell _ _ _ _ h.n8).trans h.t
  p := (Below.heap_setCell _ _ _ _ h.n9).trans h.p
  pg := by
   have := blk_set h.pg k (.int .i64 v)
   simpa [wordsV, List.map_set] using this
  ix := ⟨u, n, hI.far h.fp _⟩
  len := by rw [List.length_set]; exact h.len }
theorem Pst.cellw {F : Nat → Prop} {w : World} {bi bm b5 b8 b9 bp : Nat} {ws : List Int} {L : List ByteArray} (h : Pst F w bi bm b5 b8 b9 bp ws L) (k : Nat) (x : Int) (hx : ws[k]? = some x) : w.cell? ⟨bp, k, none⟩ = some (.int .i64 x) := by
 rw [cell_of_row _ _ _ _ _ _ h.pg]; simp [wordsV, hx]
theorem of_pst {F : Nat → Prop} {w : World} {bi bm b5 b8 b9 bp : Nat} {ws : List Int} {L : List ByteArray} (h : Pst F w bi bm b5 b8 b9 bp ws L) (hL : L.length ≤ 1000) (k : ByteArray) (hk : okS k) (hi : ixF L k = none) (L' : List ByteArray) (hL' : L ++ [k] = L') (i : Int) (hii : (L.length : Int) + 1 = i) :
  Calls Try.prog 18 #[.pointer (some ⟨bi, 0, none⟩), .string k] w fun e w' => e = .returned (.int .i64 i) ∧ Pst F w' bi bm b5 b8 b9 bp ws L' ∧ Keep F w w' := by
 obtain ⟨v, n, hI⟩ := h.ix
 refine (of_new F w bi bm L v n hI hL k hk hi).mono ?_
 rintro e w' ⟨rfl, h1, h2⟩
 rw [hL'] at h1
 exact ⟨by rw [hii], h.next h2 h1, h2⟩
theorem hash_at (k : Int) (r : Int) (hr : hashI k 8 = r) (w : World) : Calls Try.prog 28 #[.int .i64 k, .int .i64 8] w fun e w' => e = .returned (.int .i64 r) ∧ Still w w' := by
 have := hash_go k 8 (by decide) w
 rw [hr] at this
 exact this
theorem Pst.still {F : Nat → Prop} {w w1 : World} {bi bm b5 b8 b9 bp : Nat} {ws : List Int} {L : List ByteArray} (h : Pst F w bi bm b5 b8 b9 bp ws L) (hh : Still w w1) : Pst F w1 bi bm b5 b8 b9 bp ws L := by
 obtain ⟨v, n, hI⟩ := h.ix
 exact h.next ⟨by rw [hh.heap]; exact Nat.le_refl _, fun k _ _ => by rw [hh.heap], hh.ext⟩ ⟨v, n, hI.below ⟨hh.ext.1, hh.ext.2.1, hh.ext.2.2, by rw [hh.heap]; exact Nat.le_refl _, fun k _ => by rw [hh.heap]⟩⟩
def FP (F : Nat → Prop) (bp : Nat) : Nat → Prop := fun k => F k ∧ k ≠ bp
theorem put29 (a : Ad) (F : Nat → Prop) (w : World) (bi bm b4 b5 b8 b9 bp : Nat) (h : Pst F w bi bm b5 b8 b9 bp [5, 8, 2, 1, 0, 0, 0, 0, 0, 0, 0, 0, 0, 0, 0, 0, 0, 0, 0, 0, 0, 0] []) (hg : ∀ W, Keep (FP F bp) w W → a.g.In W) :
  Calls Try.prog 27 #[.slice a.A0 1 a.c0, .int .i64 3, .func (.func 29) #[] #[], .pointer (some ⟨b5, 0, none⟩), .pointer (some ⟨b8, 0, none⟩), .pointer (some ⟨b9, 0, none⟩)] w fun e w' => e = .returned (.tuple #[]) ∧ Pst F w' bi bm b5 b8 b9 bp [5, 8, 2, 1, 0, 0, 7, 1, 0, 0, 0, 0, 0, 0, 0, 0, 0, 0, 0, 0, 0, 0] [bOpen] ∧ Keep (FP F bp) w w' := by
 have HP0 := jA h
 have HG := jA hg
 clear h hg
 go_enter Try.func27, Try.ntmps27
 go_wp2
 go_loopw [15] (fun u wr => (u = .int .i64 0 ∧ Aside0 (Pst F wr bi bm b5 b8 b9 bp [5, 8, 2, 1, 0, 0, 0, 0, 0, 0, 0, 0, 0, 0, 0, 0, 0, 0, 0, 0, 0, 0] [] ∧ Keep (FP F bp) w wr)) ∨ (u = .int .i64 1 ∧ Aside0 (Pst F wr bi bm b5 b8 b9 bp [5, 8, 2, 1, 0, 0, 7, 1, 0, 0, 0, 0, 0, 0, 0, 0, 0, 0, 0, 0, 0, 0] [bOpen] ∧ Keep (FP F bp) w wr))) (fun u _ => 1 - (intOf u).toNat)
 case atStart => exact .inl ⟨rfl, HP0.out, Keep.refl _ _⟩
 case round =>
  rcases hrel with ⟨rfl, HR⟩ | ⟨rfl, HR⟩
  ·obtain ⟨ad, e0, hx⟩ := Kd.at_string (xs := [bOpen]) (HG.out _ HR.out.2).h0 0 (by decide) (by show (0 : Int) < ((1 : Nat) : Int); decide)
   have e0' : a.A0 = some ad := e0
   have hx' : wr.cell? ad = some (.string bOpen) := by
    have ea : ad.add 0 = ad := by simp [Addr.add]
    rw [← ea]; exact hx
   have x5 := cellOf HR.out.1.x 0 (.pointer (some ⟨bi, 0, none⟩)) rfl
   have HQ := jA (of_pst HR.out.1 (by decide) bOpen (ok4 _ (by simp)) (by decide) [bOpen] rfl 1 (by decide))
   have HH := jA (fun W => hash_at 7 1 (by decide +kernel) W)
   have o1 : bits BinOp.or IntKind.i64 4 3 = 7 := by decide
   rw [e0'] at *
   clear hx e0 e0'
   go_wp2_with (first | (go_at_call 18; (refine HQ.out.mono ?_); rintro e w3 ⟨rfl, hP3, hK3⟩; have t8 := cellOf hP3.t 0 (.int .i64 8) rfl; have HP3 := jA hP3; have HK3 := jA (HR.out.2.trans (hK3.less (fun k hk => hk.1))); clear hP3 hK3) | (go_at_call 28; (refine (HH.out _).mono ?_); rintro e w5 ⟨rfl, hS5⟩; have hP5 := HP3.out.still hS5; have HK5 := jA (HK3.out.trans (Keep.less (F := fun _ => True) ⟨by rw [hS5.heap]; exact Nat.le_refl _, fun k _ _ => by rw [hS5.heap], hS5.ext⟩ (fun _ _ => trivial))); have p9 := cellOf hP5.p 0 (.slice (some ⟨bp, 0, none⟩) 20 22) rfl; have q9 := hP5.cellw 6 0 rfl; have HP5 := jA hP5; clear hP5 hS5 t8 hx' x5))
   go_loopw [12] (fun u wi => u = .int .i64 1 ∧ wi = w5) (fun _ _ => 0)
   case atStart => exact ⟨rfl, rfl⟩
   case round =>
    obtain ⟨rfl, hwi⟩ := hrel
    rw [hwi]
    clear hwi
    go_upto_region 7 with fail
    have p9' : w5.drew.cell? ⟨b9, 0, none⟩ = some (.slice (some ⟨bp, 0, none⟩) 20 22) := p9
    have v1 : IntKind.i64.wrap 2 = 2 := by decide
    have v2 : IntKind.i64.wrap 6 = 6 := by decide
    have v3 : IntKind.i64.wrap 7 = 7 := by decide
    obtain ⟨w6, hw6⟩ : ∃ q, q = w5.drew := ⟨_, rfl⟩
    have hP6 := HP5.out.drew
    have hK6 := HK5.out.below (below_drew (Below.refl _ _))
    rw [← hw6] at hP6 hK6 p9'
    have HP6 := jA hP6
    have HK6 := jA hK6
    have HN := jA (num29 w6 0 1 (by decide +kernel))
    have HW6 := jA hw6
    clear hP6 hK6 hw6
    refine start_ (n := 17) (S := fun w' => w'.cell? ⟨b9, 0, none⟩ = some (.slice (some ⟨bp, 0, none⟩) 20 22)) (ds := [16]) (Jb 17 0) (by kernel_rfl) rfl (by kernel_rfl) p9 (fun hHeld => ?_)
    rw [← HW6.out] at hHeld ⊢
    refine Jk 0 41 (Jb 17 1) rfl rfl hHeld (.inl ⟨by rfl, by rintro w' s0; go_simp; with_reducible rfl⟩) ?_
    refine Jp 1 42 (Jb 17 3) rfl rfl ?_
    refine Jp 2 43 (Jb 17 7) rfl rfl ?_
    refine Jp 3 44 (Jb 17 15) rfl rfl ?_
    refine Jk 4 45 (Jb 17 31) rfl rfl hHeld (.inl ⟨by rfl, by rintro w' s0; go_simp; with_reducible rfl⟩) ?_
    refine Jp 5 46 (Jb 17 63) rfl rfl ?_
    refine Jp 6 47 (Jb 17 127) rfl rfl ?_
    refine Jp 7 48 (Jb 17 255) rfl rfl ?_
    refine Jp 8 49 (Jb 17 511) rfl rfl ?_
    refine Jp 9 50 (Jb 17 1023) rfl rfl ?_
    refine Jp 10 51 (Jb 17 2047) rfl rfl ?_
    refine Jp 11 52 (Jb 17 4095) rfl rfl ?_
    refine one_ (i := 12) (N := some 53) (Jb 17 8191) rfl rfl (by kernel_rfl) (by decide) (fun K hK => ?_)
    refine goesV_ 51 #[] #[] Try.func29 (by kernel_rfl) rfl #[.int .i64 0] (by rfl) rfl rfl rfl (by first | rfl | (simp [Act.eval]; done) | (simp [Act.eval]; rfl)) ?_
    refine HN.out.mono ?_
    rintro e w7 ⟨rfl, hw7⟩
    rw [hw7]
    clear hw7
    refine ⟨_, rfl, ?_⟩
    refine hK.out _ _ p9' (fun hHeld => ?_)
    clear hK K
    refine norm_ (a' := ?_) ?_ ?_; rotate_left; (show Act.put _ (some 53) _ = _; simp only [Act.put, Jq, Jr, Js]; rfl)
    refine Jp 13 54 (Jb 17 16383) rfl rfl ?_
    refine one_ (i := 14) (N := none) (Jb 17 32767) rfl rfl (by kernel_rfl) (by decide) (fun K hK => ?_)
    refine GDiffer.step_skip (w' := w6.setCell ⟨bp, 6, none⟩ (.int .i64 7)) rfl rfl (by have hst := store_int (v := 7) (HP6.out.cellw 6 0 rfl) (MPut.frozen_of_row HP6.out.pg 6); simp [execOp, Act.eval, hst]) ?_
    refine hK.out _ _ (cellOf (HP6.out.word 6 7).p 0 _ rfl) (fun hHeld => ?_)
    clear hK K
    refine norm_ (a' := ?_) ?_ ?_; rotate_left; (show Act.put _ (none) _ = _; simp only [Act.put, Jq, Jr, Js]; rfl)
    refine Jp 15 55 (Jb 17 65535) rfl rfl ?_
    refine last_ (i := 16) (N := none) (Jb 17 131071) rfl rfl (by kernel_rfl) (by decide) (fun K hK => ?_)
    refine GDiffer.step_skip (w' := (w6.setCell ⟨bp, 6, none⟩ (.int .i64 7)).setCell ⟨bp, 7, none⟩ (.int .i64 1)) rfl rfl (by have hst := store_int (v := 1) ((HP6.out.word 6 7).cellw 7 0 rfl) (MPut.frozen_of_row (HP6.out.word 6 7).pg 7); simp [execOp, Act.eval, hst]) ?_
    refine hK.out _ _ ?_
    clear hK K
    refine done_ (by kernel_rfl) ?_
    have hP7 := (HP6.out.word 6 7).word 7 1
    have hK7 := ((HK6.out.setCell (p := ⟨bp, 6, none⟩) (fun e => e.2 rfl) (.int .i64 7)).setCell (p := ⟨bp, 7, none⟩) (fun e => e.2 rfl) (.int .i64 1))
    have HP7 := jA hP7
    have HK7 := jA hK7
    clear hP7 hK7
    go_wp2
    go_roundw
    case rel => exact .inr ⟨by first | rfl | go_num, HP7.out, HK7.out⟩
    case measure => simp [intOf]
  ·go_wp2
   go_end0
   exact ⟨rfl, HR.out.1, HR.out.2⟩
theorem put30 (a : Ad) (F : Nat → Prop) (w : World) (bi bm b4 b5 b8 b9 bp : Nat) (h : Pst F w bi bm b5 b8 b9 bp [5, 8, 2, 1, 0, 0, 7, 1, 0, 0, 0, 0, 0, 0, 0, 0, 0, 0, 0, 0, 0, 0] [bOpen]) (hg : ∀ W, Keep (FP F bp) w W → a.g.In W) (hB : w.heap[b4]? = some (.cells a.v 59 (0, 0))) (f4 : F b4) (n4 : b4 ≠ bp) :
  Calls Try.prog 27 #[.slice a.A1 2 a.c1, .int .i64 1, .func (.func 30) #[] #[.pointer (some ⟨b4, 0, none⟩)], .pointer (some ⟨b5, 0, none⟩), .pointer (some ⟨b8, 0, none⟩), .pointer (some ⟨b9, 0, none⟩)] w fun e w' => e = .returned (.tuple #[]) ∧ Pst F w' bi bm b5 b8 b9 bp [5, 8, 2, 1, 0, 0, 7, 1, 0, 0, 13, 2, 0, 0, 0, 0, 0, 0, 9, 1, 0, 0] [bOpen, bAnn, bBob] ∧ Keep (FP F bp) w w' := by
 have HP0 := jA h
 have HG := jA hg
 have HB4 := jA (And.intro hB (And.intro f4 n4))
 clear hB f4 n4
 clear h hg
 go_enter Try.func27, Try.ntmps27
 go_wp2
 go_loopw [15] (fun u wr => (u = .int .i64 0 ∧ Aside0 (Pst F wr bi bm b5 b8 b9 bp [5, 8, 2, 1, 0, 0, 7, 1, 0, 0, 0, 0, 0, 0, 0, 0, 0, 0, 0, 0, 0, 0] [bOpen] ∧ Keep (FP F bp) w wr)) ∨ (u = .int .i64 1 ∧ Aside0 (Pst F wr bi bm b5 b8 b9 bp [5, 8, 2, 1, 0, 0, 7, 1, 0, 0, 0, 0, 0, 0, 0, 0, 0, 0, 9, 1, 0, 0] [bOpen, bAnn] ∧ Keep (FP F bp) w wr)) ∨ (u = .int .i64 2 ∧ Aside0 (Pst F wr bi bm b5 b8 b9 bp [5, 8, 2, 1, 0, 0, 7, 1, 0, 0, 13, 2, 0, 0, 0, 0, 0, 0, 9, 1, 0, 0] [bOpen, bAnn, bBob] ∧ Keep (FP F bp) w wr))) (fun u _ => 2 - (intOf u).toNat)
 case atStart => exact .inl ⟨rfl, HP0.out, Keep.refl _ _⟩
 case round =>
  rcases hrel with ⟨rfl, HR⟩ | ⟨rfl, HR⟩ | ⟨rfl, HR⟩
  ·obtain ⟨ad, e0, hx⟩ := Kd.at_string (xs := [bAnn, bBob]) (HG.out _ HR.out.2).h1 0 (by decide) (by show (0 : Int) < ((2 : Nat) : Int); decide)
   have e0' : a.A1 = some ad := e0
   have hx' : wr.cell? ad = some (.string bAnn) := by
    have ea : ad.add 0 = ad := by simp [Addr.add]
    rw [← ea]; exact hx
   have x5 := cellOf HR.out.1.x 0 (.pointer (some ⟨bi, 0, none⟩)) rfl
   have HQ := jA (of_pst HR.out.1 (by decide) bAnn (ok4 _ (by simp)) (by decide) [bOpen, bAnn] rfl 2 (by decide))
   have HH := jA (fun W => hash_at 9 7 (by decide +kernel) W)
   have o1 : bits BinOp.or IntKind.i64 8 1 = 9 := by decide
   rw [e0'] at *
   clear hx e0 e0'
   go_wp2_with (first | (go_at_call 18; (refine HQ.out.mono ?_); rintro e w3 ⟨rfl, hP3, hK3⟩; have t8 := cellOf hP3.t 0 (.int .i64 8) rfl; have HP3 := jA hP3; have HK3 := jA (HR.out.2.trans (hK3.less (fun k hk => hk.1))); clear hP3 hK3) | (go_at_call 28; (refine (HH.out _).mono ?_); rintro e w5 ⟨rfl, hS5⟩; have hP5 := HP3.out.still hS5; have HK5 := jA (HK3.out.trans (Keep.less (F := fun _ => True) ⟨by rw [hS5.heap]; exact Nat.le_refl _, fun k _ _ => by rw [hS5.heap], hS5.ext⟩ (fun _ _ => trivial))); have p9 := cellOf hP5.p 0 (.slice (some ⟨bp, 0, none⟩) 20 22) rfl; have q9 := hP5.cellw 18 0 rfl; have HP5 := jA hP5; clear hP5 hS5 t8 hx' x5))
   go_loopw [12] (fun u wi => u = .int .i64 7 ∧ wi = w5) (fun _ _ => 0)
   case atStart => exact ⟨rfl, rfl⟩
   case round =>
    obtain ⟨rfl, hwi⟩ := hrel
    rw [hwi]
    clear hwi
    go_upto_region 7 with fail
    have p9' : w5.drew.cell? ⟨b9, 0, none⟩ = some (.slice (some ⟨bp, 0, none⟩) 20 22) := p9
    have v1 : IntKind.i64.wrap 14 = 14 := by decide
    have v2 : IntKind.i64.wrap 18 = 18 := by decide
    have v3 : IntKind.i64.wrap 19 = 19 := by decide
    obtain ⟨w6, hw6⟩ : ∃ q, q = w5.drew := ⟨_, rfl⟩
    have hP6 := HP5.out.drew
    have hK6 := HK5.out.below (below_drew (Below.refl _ _))
    rw [← hw6] at hP6 hK6 p9'
    have HP6 := jA hP6
    have HK6 := jA hK6
    have HN := jA (num30 a w6 b4 (kb HK6.out ⟨HB4.out.2.1, HB4.out.2.2⟩ HB4.out.1) (HG.out _ HK6.out) 0 (by decide) 1 (by rfl))
    have HW6 := jA hw6
    clear hP6 hK6 hw6
    refine start_ (n := 17) (S := fun w' => w'.cell? ⟨b9, 0, none⟩ = some (.slice (some ⟨bp, 0, none⟩) 20 22)) (ds := [16]) (Jb 17 0) (by kernel_rfl) rfl (by kernel_rfl) p9 (fun hHeld => ?_)
    rw [← HW6.out] at hHeld ⊢
    refine Jk 0 41 (Jb 17 1) rfl rfl hHeld (.inl ⟨by rfl, by rintro w' s0; go_simp; with_reducible rfl⟩) ?_
    refine Jp 1 42 (Jb 17 3) rfl rfl ?_
    refine Jp 2 43 (Jb 17 7) rfl rfl ?_
    refine Jp 3 44 (Jb 17 15) rfl rfl ?_
    refine Jk 4 45 (Jb 17 31) rfl rfl hHeld (.inl ⟨by rfl, by rintro w' s0; go_simp; with_reducible rfl⟩) ?_
    refine Jp 5 46 (Jb 17 63) rfl rfl ?_
    refine Jp 6 47 (Jb 17 127) rfl rfl ?_
    refine Jp 7 48 (Jb 17 255) rfl rfl ?_
    refine Jp 8 49 (Jb 17 511) rfl rfl ?_
    refine Jp 9 50 (Jb 17 1023) rfl rfl ?_
    refine Jp 10 51 (Jb 17 2047) rfl rfl ?_
    refine Jp 11 52 (Jb 17 4095) rfl rfl ?_
    refine one_ (i := 12) (N := some 53) (Jb 17 8191) rfl rfl (by kernel_rfl) (by decide) (fun K hK => ?_)
    refine goesV_ 51 #[] #[.pointer (some ⟨b4, 0, none⟩)] Try.func30 (by kernel_rfl) rfl #[.int .i64 0, .pointer (some ⟨b4, 0, none⟩)] (by rfl) rfl rfl rfl (by first | rfl | (simp [Act.eval]; done) | (simp [Act.eval]; rfl)) ?_
    refine HN.out.mono ?_
    rintro e w7 ⟨rfl, hw7⟩
    rw [hw7]
    clear hw7
    refine ⟨_, rfl, ?_⟩
    refine hK.out _ _ p9' (fun hHeld => ?_)
    clear hK K
    refine norm_ (a' := ?_) ?_ ?_; rotate_left; (show Act.put _ (some 53) _ = _; simp only [Act.put, Jq, Jr, Js]; rfl)
    refine Jp 13 54 (Jb 17 16383) rfl rfl ?_
    refine one_ (i := 14) (N := none) (Jb 17 32767) rfl rfl (by kernel_rfl) (by decide) (fun K hK => ?_)
    refine GDiffer.step_skip (w' := w6.setCell ⟨bp, 18, none⟩ (.int .i64 9)) rfl rfl (by have hst := store_int (v := 9) (HP6.out.cellw 18 0 rfl) (MPut.frozen_of_row HP6.out.pg 18); simp [execOp, Act.eval, hst]) ?_
    refine hK.out _ _ (cellOf (HP6.out.word 18 9).p 0 _ rfl) (fun hHeld => ?_)
    clear hK K
    refine norm_ (a' := ?_) ?_ ?_; rotate_left; (show Act.put _ (none) _ = _; simp only [Act.put, Jq, Jr, Js]; rfl)
    refine Jp 15 55 (Jb 17 65535) rfl rfl ?_
    refine last_ (i := 16) (N := none) (Jb 17 131071) rfl rfl (by kernel_rfl) (by decide) (fun K hK => ?_)
    refine GDiffer.step_skip (w' := (w6.setCell ⟨bp, 18, none⟩ (.int .i64 9)).setCell ⟨bp, 19, none⟩ (.int .i64 1)) rfl rfl (by have hst := store_int (v := 1) ((HP6.out.word 18 9).cellw 19 0 rfl) (MPut.frozen_of_row (HP6.out.word 18 9).pg 19); simp [execOp, Act.eval, hst]) ?_
    refine hK.out _ _ ?_
    clear hK K
    refine done_ (by kernel_rfl) ?_
    have hP7 := (HP6.out.word 18 9).word 19 1
    have hK7 := ((HK6.out.setCell (p := ⟨bp, 18, none⟩) (fun e => e.2 rfl) (.int .i64 9)).setCell (p := ⟨bp, 19, none⟩) (fun e => e.2 rfl) (.int .i64 1))
    have HP7 := jA hP7
    have HK7 := jA hK7
    clear hP7 hK7
    go_wp2
    go_roundw
    case rel => exact .inr (.inl ⟨by first | rfl | go_num, HP7.out, HK7.out⟩)
    case measure => simp [intOf]
  ·obtain ⟨ad, e0, hx⟩ := Kd.at_string (xs := [bAnn, bBob]) (HG.out _ HR.out.2).h1 1 (by decide) (by show (1 : Int) < ((2 : Nat) : Int); decide)
   have e0' : a.A1 = some ad := e0
   have hx' : wr.cell? ⟨ad.block, ad.off + 1, none⟩ = some (.string bBob) := by
    have ea : ad.add 1 = ⟨ad.block, ad.off + 1, none⟩ := by simp [Addr.add]
    rw [← ea]; exact hx
   have x5 := cellOf HR.out.1.x 0 (.pointer (some ⟨bi, 0, none⟩)) rfl
   have HQ := jA (of_pst HR.out.1 (by decide) bBob (ok4 _ (by simp)) (by decide) [bOpen, bAnn, bBob] rfl 3 (by decide))
   have HH := jA (fun W => hash_at 13 3 (by decide +kernel) W)
   have o1 : bits BinOp.or IntKind.i64 12 1 = 13 := by decide
   rw [e0'] at *
   clear hx e0 e0'
   go_wp2_with (first | (go_at_call 18; (refine HQ.out.mono ?_); rintro e w3 ⟨rfl, hP3, hK3⟩; have t8 := cellOf hP3.t 0 (.int .i64 8) rfl; have HP3 := jA hP3; have HK3 := jA (HR.out.2.trans (hK3.less (fun k hk => hk.1))); clear hP3 hK3) | (go_at_call 28; (refine (HH.out _).mono ?_); rintro e w5 ⟨rfl, hS5⟩; have hP5 := HP3.out.still hS5; have HK5 := jA (HK3.out.trans (Keep.less (F := fun _ => True) ⟨by rw [hS5.heap]; exact Nat.le_refl _, fun k _ _ => by rw [hS5.heap], hS5.ext⟩ (fun _ _ => trivial))); have p9 := cellOf hP5.p 0 (.slice (some ⟨bp, 0, none⟩) 20 22) rfl; have q9 := hP5.cellw 10 0 rfl; have HP5 := jA hP5; clear hP5 hS5 t8 hx' x5))
   go_loopw [12] (fun u wi => u = .int .i64 3 ∧ wi = w5) (fun _ _ => 0)
   case atStart => exact ⟨rfl, rfl⟩
   case round =>
    obtain ⟨rfl, hwi⟩ := hrel
    rw [hwi]
    clear hwi
    go_upto_region 7 with fail
    have p9' : w5.drew.cell? ⟨b9, 0, none⟩ = some (.slice (some ⟨bp, 0, none⟩) 20 22) := p9
    have v1 : IntKind.i64.wrap 6 = 6 := by decide
    have v2 : IntKind.i64.wrap 10 = 10 := by decide
    have v3 : IntKind.i64.wrap 11 = 11 := by decide
    obtain ⟨w6, hw6⟩ : ∃ q, q = w5.drew := ⟨_, rfl⟩
    have hP6 := HP5.out.drew
    have hK6 := HK5.out.below (below_drew (Below.refl _ _))
    rw [← hw6] at hP6 hK6 p9'
    have HP6 := jA hP6
    have HK6 := jA hK6
    have HN := jA (num30 a w6 b4 (kb HK6.out ⟨HB4.out.2.1, HB4.out.2.2⟩ HB4.out.1) (HG.out _ HK6.out) 1 (by decide) 2 (by rfl))
    have HW6 := jA hw6
    clear hP6 hK6 hw6
    refine start_ (n := 17) (S := fun w' => w'.cell? ⟨b9, 0, none⟩ = some (.slice (some ⟨bp, 0, none⟩) 20 22)) (ds := [16]) (Jb 17 0) (by kernel_rfl) rfl (by kernel_rfl) p9 (fun hHeld => ?_)
    rw [← HW6.out] at hHeld ⊢
    refine Jk 0 41 (Jb 17 1) rfl rfl hHeld (.inl ⟨by rfl, by rintro w' s0; go_simp; with_reducible rfl⟩) ?_
    refine Jp 1 42 (Jb 17 3) rfl rfl ?_
    refine Jp 2 43 (Jb 17 7) rfl rfl ?_
    refine Jp 3 44 (Jb 17 15) rfl rfl ?_
    refine Jk 4 45 (Jb 17 31) rfl rfl hHeld (.inl ⟨by rfl, by rintro w' s0; go_simp; with_reducible rfl⟩) ?_
    refine Jp 5 46 (Jb 17 63) rfl rfl ?_
    refine Jp 6 47 (Jb 17 127) rfl rfl ?_
    refine Jp 7 48 (Jb 17 255) rfl rfl ?_
    refine Jp 8 49 (Jb 17 511) rfl rfl ?_
    refine Jp 9 50 (Jb 17 1023) rfl rfl ?_
    refine Jp 10 51 (Jb 17 2047) rfl rfl ?_
    refine Jp 11 52 (Jb 17 4095) rfl rfl ?_
    refine one_ (i := 12) (N := some 53) (Jb 17 8191) rfl rfl (by kernel_rfl) (by decide) (fun K hK => ?_)
    refine goesV_ 51 #[] #[.pointer (some ⟨b4, 0, none⟩)] Try.func30 (by kernel_rfl) rfl #[.int .i64 1, .pointer (some ⟨b4, 0, none⟩)] (by rfl) rfl rfl rfl (by first | rfl | (simp [Act.eval]; done) | (simp [Act.eval]; rfl)) ?_
    refine HN.out.mono ?_
    rintro e w7 ⟨rfl, hw7⟩
    rw [hw7]
    clear hw7
    refine ⟨_, rfl, ?_⟩
    refine hK.out _ _ p9' (fun hHeld => ?_)
    clear hK K
    refine norm_ (a' := ?_) ?_ ?_; rotate_left; (show Act.put _ (some 53) _ = _; simp only [Act.put, Jq, Jr, Js]; rfl)
    refine Jp 13 54 (Jb 17 16383) rfl rfl ?_
    refine one_ (i := 14) (N := none) (Jb 17 32767) rfl rfl (by kernel_rfl) (by decide) (fun K hK => ?_)
    refine GDiffer.step_skip (w' := w6.setCell ⟨bp, 10, none⟩ (.int .i64 13)) rfl rfl (by have hst := store_int (v := 13) (HP6.out.cellw 10 0 rfl) (MPut.frozen_of_row HP6.out.pg 10); simp [execOp, Act.eval, hst]) ?_
    refine hK.out _ _ (cellOf (HP6.out.word 10 13).p 0 _ rfl) (fun hHeld => ?_)
    clear hK K
    refine norm_ (a' := ?_) ?_ ?_; rotate_left; (show Act.put _ (none) _ = _; simp only [Act.put, Jq, Jr, Js]; rfl)
    refine Jp 15 55 (Jb 17 65535) rfl rfl ?_
    refine last_ (i := 16) (N := none) (Jb 17 131071) rfl rfl (by kernel_rfl) (by decide) (fun K hK => ?_)
    refine GDiffer.step_skip (w' := (w6.setCell ⟨bp, 10, none⟩ (.int .i64 13)).setCell ⟨bp, 11, none⟩ (.int .i64 2)) rfl rfl (by have hst := store_int (v := 2) ((HP6.out.word 10 13).cellw 11 0 rfl) (MPut.frozen_of_row (HP6.out.word 10 13).pg 11); simp [execOp, Act.eval, hst]) ?_
    refine hK.out _ _ ?_
    clear hK K
    refine done_ (by kernel_rfl) ?_
    have hP7 := (HP6.out.word 10 13).word 11 2
    have hK7 := ((HK6.out.setCell (p := ⟨bp, 10, none⟩) (fun e => e.2 rfl) (.int .i64 13)).setCell (p := ⟨bp, 11, none⟩) (fun e => e.2 rfl) (.int .i64 2))
    have HP7 := jA hP7
    have HK7 := jA hK7
    clear hP7 hK7
    go_wp2
    go_roundw
    case rel => exact .inr (.inr ⟨by first | rfl | go_num, HP7.out, HK7.out⟩)
    case measure => simp [intOf]
  ·go_wp2
   go_end0
   exact ⟨rfl, HR.out.1, HR.out.2⟩
theorem put31 (a : Ad) (F : Nat → Prop) (w : World) (bi bm b4 b5 b8 b9 bp : Nat) (h : Pst F w bi bm b5 b8 b9 bp [5, 8, 2, 1, 0, 0, 7, 1, 0, 0, 13, 2, 0, 0, 0, 0, 0, 0, 9, 1, 0, 0] [bOpen, bAnn, bBob]) (hg : ∀ W, Keep (FP F bp) w W → a.g.In W) (hB : w.heap[b4]? = some (.cells a.v 59 (0, 0))) (f4 : F b4) (n4 : b4 ≠ bp) :
  Calls Try.prog 27 #[.slice a.A2 1 a.c2, .int .i64 2, .func (.func 31) #[] #[.pointer (some ⟨b4, 0, none⟩)], .pointer (some ⟨b5, 0, none⟩), .pointer (some ⟨b8, 0, none⟩), .pointer (some ⟨b9, 0, none⟩)] w fun e w' => e = .returned (.tuple #[]) ∧ Pst F w' bi bm b5 b8 b9 bp [5, 8, 2, 1, 0, 0, 7, 1, 0, 0, 13, 2, 0, 0, 0, 0, 18, 1, 9, 1, 0, 0] [bOpen, bAnn, bBob, bDoor] ∧ Keep (FP F bp) w w' := by
 have HP0 := jA h
 have HG := jA hg
 have HB4 := jA (And.intro hB (And.intro f4 n4))
 clear hB f4 n4
 clear h hg
 go_enter Try.func27, Try.ntmps27
 go_wp2
 go_loopw [15] (fun u wr => (u = .int .i64 0 ∧ Aside0 (Pst F wr bi bm b5 b8 b9 bp [5, 8, 2, 1, 0, 0, 7, 1, 0, 0, 13, 2, 0, 0, 0, 0, 0, 0, 9, 1, 0, 0] [bOpen, bAnn, bBob] ∧ Keep (FP F bp) w wr)) ∨ (u = .int .i64 1 ∧ Aside0 (Pst F wr bi bm b5 b8 b9 bp [5, 8, 2, 1, 0, 0, 7, 1, 0, 0, 13, 2, 0, 0, 0, 0, 18, 1, 9, 1, 0, 0] [bOpen, bAnn, bBob, bDoor] ∧ Keep (FP F bp) w wr))) (fun u _ => 1 - (intOf u).toNat)
 case atStart => exact .inl ⟨rfl, HP0.out, Keep.refl _ _⟩
 case round =>
  rcases hrel with ⟨rfl, HR⟩ | ⟨rfl, HR⟩
  ·obtain ⟨ad, e0, hx⟩ := Kd.at_string (xs := [bDoor]) (HG.out _ HR.out.2).h2 0 (by decide) (by show (0 : Int) < ((1 : Nat) : Int); decide)
   have e0' : a.A2 = some ad := e0
   have hx' : wr.cell? ad = some (.string bDoor) := by
    have ea : ad.add 0 = ad := by simp [Addr.add]
    rw [← ea]; exact hx
   have x5 := cellOf HR.out.1.x 0 (.pointer (some ⟨bi, 0, none⟩)) rfl
   have HQ := jA (of_pst HR.out.1 (by decide) bDoor (ok4 _ (by simp)) (by decide) [bOpen, bAnn, bBob, bDoor] rfl 4 (by decide))
   have HH := jA (fun W => hash_at 18 6 (by decide +kernel) W)
   have o1 : bits BinOp.or IntKind.i64 16 2 = 18 := by decide
   rw [e0'] at *
   clear hx e0 e0'
   go_wp2_with (first | (go_at_call 18; (refine HQ.out.mono ?_); rintro e w3 ⟨rfl, hP3, hK3⟩; have t8 := cellOf hP3.t 0 (.int .i64 8) rfl; have HP3 := jA hP3; have HK3 := jA (HR.out.2.trans (hK3.less (fun k hk => hk.1))); clear hP3 hK3) | (go_at_call 28; (refine (HH.out _).mono ?_); rintro e w5 ⟨rfl, hS5⟩; have hP5 := HP3.out.still hS5; have HK5 := jA (HK3.out.trans (Keep.less (F := fun _ => True) ⟨by rw [hS5.heap]; exact Nat.le_refl _, fun k _ _ => by rw [hS5.heap], hS5.ext⟩ (fun _ _ => trivial))); have p9 := cellOf hP5.p 0 (.slice (some ⟨bp, 0, none⟩) 20 22) rfl; have q9 := hP5.cellw 16 0 rfl; have HP5 := jA hP5; clear hP5 hS5 t8 hx' x5))
   go_loopw [12] (fun u wi => u = .int .i64 6 ∧ wi = w5) (fun _ _ => 0)
   case atStart => exact ⟨rfl, rfl⟩
   case round =>
    obtain ⟨rfl, hwi⟩ := hrel
    rw [hwi]
    clear hwi
    go_upto_region 7 with fail
    have p9' : w5.drew.cell? ⟨b9, 0, none⟩ = some (.slice (some ⟨bp, 0, none⟩) 20 22) := p9
    have v1 : IntKind.i64.wrap 12 = 12 := by decide
    have v2 : IntKind.i64.wrap 16 = 16 := by decide
    have v3 : IntKind.i64.wrap 17 = 17 := by decide
    obtain ⟨w6, hw6⟩ : ∃ q, q = w5.drew := ⟨_, rfl⟩
    have hP6 := HP5.out.drew
    have hK6 := HK5.out.below (below_drew (Below.refl _ _))
    rw [← hw6] at hP6 hK6 p9'
    have HP6 := jA hP6
    have HK6 := jA hK6
    have HN := jA (num31 a w6 b4 (kb HK6.out ⟨HB4.out.2.1, HB4.out.2.2⟩ HB4.out.1) (HG.out _ HK6.out) 0 (by decide) 1 (by rfl))
    have HW6 := jA hw6
    clear hP6 hK6 hw6
    refine start_ (n := 17) (S := fun w' => w'.cell? ⟨b9, 0, none⟩ = some (.slice (some ⟨bp, 0, none⟩) 20 22)) (ds := [16]) (Jb 17 0) (by kernel_rfl) rfl (by kernel_rfl) p9 (fun hHeld => ?_)
    rw [← HW6.out] at hHeld ⊢
    refine Jk 0 41 (Jb 17 1) rfl rfl hHeld (.inl ⟨by rfl, by rintro w' s0; go_simp; with_reducible rfl⟩) ?_
    refine Jp 1 42 (Jb 17 3) rfl rfl ?_
    refine Jp 2 43 (Jb 17 7) rfl rfl ?_
    refine Jp 3 44 (Jb 17 15) rfl rfl ?_
    refine Jk 4 45 (Jb 17 31) rfl rfl hHeld (.inl ⟨by rfl, by rintro w' s0; go_simp; with_reducible rfl⟩) ?_
    refine Jp 5 46 (Jb 17 63) rfl rfl ?_
    refine Jp 6 47 (Jb 17 127) rfl rfl ?_
    refine Jp 7 48 (Jb 17 255) rfl rfl ?_
    refine Jp 8 49 (Jb 17 511) rfl rfl ?_
    refine Jp 9 50 (Jb 17 1023) rfl rfl ?_
    refine Jp 10 51 (Jb 17 2047) rfl rfl ?_
    refine Jp 11 52 (Jb 17 4095) rfl rfl ?_
    refine one_ (i := 12) (N := some 53) (Jb 17 8191) rfl rfl (by kernel_rfl) (by decide) (fun K hK => ?_)
    refine goesV_ 51 #[] #[.pointer (some ⟨b4, 0, none⟩)] Try.func31 (by kernel_rfl) rfl #[.int .i64 0, .pointer (some ⟨b4, 0, none⟩)] (by rfl) rfl rfl rfl (by first | rfl | (simp [Act.eval]; done) | (simp [Act.eval]; rfl)) ?_
    refine HN.out.mono ?_
    rintro e w7 ⟨rfl, hw7⟩
    rw [hw7]
    clear hw7
    refine ⟨_, rfl, ?_⟩
    refine hK.out _ _ p9' (fun hHeld => ?_)
    clear hK K
    refine norm_ (a' := ?_) ?_ ?_; rotate_left; (show Act.put _ (some 53) _ = _; simp only [Act.put, Jq, Jr, Js]; rfl)
    refine Jp 13 54 (Jb 17 16383) rfl rfl ?_
    refine one_ (i := 14) (N := none) (Jb 17 32767) rfl rfl (by kernel_rfl) (by decide) (fun K hK => ?_)
    refine GDiffer.step_skip (w' := w6.setCell ⟨bp, 16, none⟩ (.int .i64 18)) rfl rfl (by have hst := store_int (v := 18) (HP6.out.cellw 16 0 rfl) (MPut.frozen_of_row HP6.out.pg 16); simp [execOp, Act.eval, hst]) ?_
    refine hK.out _ _ (cellOf (HP6.out.word 16 18).p 0 _ rfl) (fun hHeld => ?_)
    clear hK K
    refine norm_ (a' := ?_) ?_ ?_; rotate_left; (show Act.put _ (none) _ = _; simp only [Act.put, Jq, Jr, Js]; rfl)
    refine Jp 15 55 (Jb 17 65535) rfl rfl ?_
    refine last_ (i := 16) (N := none) (Jb 17 131071) rfl rfl (by kernel_rfl) (by decide) (fun K hK => ?_)
    refine GDiffer.step_skip (w' := (w6.setCell ⟨bp, 16, none⟩ (.int .i64 18)).setCell ⟨bp, 17, none⟩ (.int .i64 1)) rfl rfl (by have hst := store_int (v := 1) ((HP6.out.word 16 18).cellw 17 0 rfl) (MPut.frozen_of_row (HP6.out.word 16 18).pg 17); simp [execOp, Act.eval, hst]) ?_
    refine hK.out _ _ ?_
    clear hK K
    refine done_ (by kernel_rfl) ?_
    have hP7 := (HP6.out.word 16 18).word 17 1
    have hK7 := ((HK6.out.setCell (p := ⟨bp, 16, none⟩) (fun e => e.2 rfl) (.int .i64 18)).setCell (p := ⟨bp, 17, none⟩) (fun e => e.2 rfl) (.int .i64 1))
    have HP7 := jA hP7
    have HK7 := jA hK7
    clear hP7 hK7
    go_wp2
    go_roundw
    case rel => exact .inr ⟨by first | rfl | go_num, HP7.out, HK7.out⟩
    case measure => simp [intOf]
  ·go_wp2
   go_end0
   exact ⟨rfl, HR.out.1, HR.out.2⟩
end Go.Proofs.Ytdgkppldopiaoaa.RPput
