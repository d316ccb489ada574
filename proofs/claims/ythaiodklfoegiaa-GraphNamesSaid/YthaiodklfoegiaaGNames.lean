/- gatehouselaw11.GraphNames, walked. -/
import Derived.Test.YthaiodklfoegiaaGValidLaw
import Derived.Test.YthaiodklfoegiaaPGraphDecidex1
namespace Go.Proofs.Ythaiodklfoegiaa.GNames
open Go.RowKit Go.Proofs.YthaiodklfoegiaaW.PrintWords Go.Proofs.YthaiodklfoegiaaW.PrintLast Go.Proofs.YthaiodklfoegiaaW.PrintMore Go.Proofs.Ythaiodklfoegiaa.BMap Go.Proofs.Ythaiodklfoegiaa.BRow Go.Proofs.Ythaiodklfoegiaa.GValid Go.Proofs.Ythaiodklfoegiaa.VPure Go.Maps
open Go.Proofs.Ythaiodklfoegiaa

abbrev bOpen : ByteArray := ⟨#[111, 112, 101, 110]⟩
abbrev bAnn : ByteArray := ⟨#[97, 110, 110]⟩
abbrev bDoor : ByteArray := ⟨#[100, 111, 111, 114]⟩
abbrev bRead : ByteArray := ⟨#[114, 101, 97, 100]⟩

theorem says_yes : PGraphDecide.graph_Decide.f 10 [bOpen] [bAnn] [bDoor] [1] [1] [[1]] bAnn bDoor bOpen = some true := by kernel_rfl
theorem says_no : PGraphDecide.graph_Decide.f 10 [bOpen] [bAnn] [bDoor] [1] [1] [[1]] bAnn bDoor bRead = some false := by kernel_rfl
open Classical in
theorem is_valid : validB [bOpen] [bAnn] [bDoor] [1] [1] [[1]] = true := by
  refine decide_eq_true ?_
  unfold validP
  refine ⟨by decide, by decide, by decide, rfl, rfl, by decide, by decide, by decide, 1, 1, by decide, by decide, ⟨rfl, ?_⟩, by decide, by decide⟩
  intro row hr
  rw [List.mem_singleton.1 hr]
  refine ⟨rfl, fun x hx => ?_⟩
  rw [List.mem_singleton.1 hx]
  decide

theorem C_one {α : Type} {enc : α → Value} {h1 : ∀ x, (enc x).oneCell' = true} {w : World} {b : Nat} {x : α} (h : w.cell? ⟨b, 0, none⟩ = some (enc x)) : Kd.C (Kd.scalar enc h1) w (some ⟨b, 0, none⟩) 1 [x] := by
  refine ⟨rfl, by decide, fun _ => ⟨_, rfl, fun j p hp => ?_⟩⟩
  have hj : j = 0 := by have := (List.getElem?_eq_some_iff.1 hp).1; simpa using this
  subst hj
  have hp : x = p := by simpa using hp
  subst hp
  refine ⟨[enc x], rfl, rfl, fun i u hu => ?_⟩
  have hi : i = 0 := by have := (List.getElem?_eq_some_iff.1 hu).1; simpa using this
  subst hi
  have hu : enc x = u := by simpa using hu
  subst hu
  simpa [Addr.add] using h

/-- The graph of one bit, from block b on. -/
def g0 (b : Nat) : G := ⟨some ⟨b, 0, none⟩, 1, [bOpen], some ⟨b + 1, 0, none⟩, 1, [bAnn], some ⟨b + 1 + 1, 0, none⟩, 1, [bDoor], some ⟨b + 1 + 1 + 1, 0, none⟩, 1, [1], some ⟨b + 1 + 1 + 1 + 1, 0, none⟩, 1, [1], some ⟨b + 1 + 1 + 1 + 1 + 1 + 1, 0, none⟩, 1, [[1]]⟩
theorem g0_in {w : World} {b : Nat} (h0 : w.cell? ⟨b, 0, none⟩ = some (.string bOpen)) (h1 : w.cell? ⟨b + 1, 0, none⟩ = some (.string bAnn)) (h2 : w.cell? ⟨b + 1 + 1, 0, none⟩ = some (.string bDoor)) (h3 : w.cell? ⟨b + 1 + 1 + 1, 0, none⟩ = some (.int .i64 1)) (h4 : w.cell? ⟨b + 1 + 1 + 1 + 1, 0, none⟩ = some (.int .i64 1))
    (h5 : w.cell? ⟨b + 1 + 1 + 1 + 1 + 1, 0, none⟩ = some (.int .u16 1)) (h6 : w.cell? ⟨b + 1 + 1 + 1 + 1 + 1 + 1, 0, none⟩ = some (.slice (some ⟨b + 1 + 1 + 1 + 1 + 1, 0, none⟩) 1 1)) : (g0 b).In w where
  h0 := C_one h0
  h1 := C_one h1
  h2 := C_one h2
  h3 := C_one h3
  h4 := C_one h4
  h5 := by
    refine ⟨rfl, (by decide : 1 ≤ 9223372036854775807), fun _ => ⟨_, rfl, fun j p hp => ?_⟩⟩
    have hj : j = 0 := by have := (List.getElem?_eq_some_iff.1 hp).1; simpa [g0] using this
    subst hj
    have hp : [1] = p := by simpa [g0] using hp
    subst hp
    refine ⟨[.slice (some ⟨b + 1 + 1 + 1 + 1 + 1, 0, none⟩) 1 1], rfl, ⟨_, 1, rfl, by decide, C_one h5⟩, fun i u hu => ?_⟩
    have hi : i = 0 := by have := (List.getElem?_eq_some_iff.1 hu).1; simpa using this
    subst hi
    have hu : Value.slice (some ⟨b + 1 + 1 + 1 + 1 + 1, 0, none⟩) 1 1 = u := by simpa using hu
    subst hu
    simpa [Addr.add, g0] using h6
  l0 := Nat.le_refl 1
  l1 := Nat.le_refl 1
  l2 := Nat.le_refl 1
  l3 := Nat.le_refl 1
  l4 := Nat.le_refl 1
  l5 := Nat.le_refl 1
  u16 := by
    intro row hr x hx
    have hr : row = [1] := by simpa [g0] using hr
    subst hr
    have hx : x = 1 := by simpa using hx
    subst hx
    rfl

theorem valid_go (b : Nat) (w : World) (h : (g0 b).In w) : Calls Try.prog 12 #[.agg #[.slice (some ⟨b, 0, none⟩) 1 1, .slice (some ⟨b + 1, 0, none⟩) 1 1, .slice (some ⟨b + 1 + 1, 0, none⟩) 1 1, .slice (some ⟨b + 1 + 1 + 1, 0, none⟩) 1 1, .slice (some ⟨b + 1 + 1 + 1 + 1, 0, none⟩) 1 1, .slice (some ⟨b + 1 + 1 + 1 + 1 + 1 + 1, 0, none⟩) 1 1]] w fun e w' => e = .returned (.bool true) ∧ Below w.heap.size w w' := by
  have := valid_calls (g0 b) w h
  rw [show validB (g0 b).la (g0 b).ls (g0 b).lo (g0 b).of (g0 b).on (g0 b).ms = true from is_valid] at this
  exact this
theorem decide_go (b : Nat) (w : World) (h : (g0 b).In w) (a : ByteArray) (r : Bool) (hr : PGraphDecide.graph_Decide.f 10 [bOpen] [bAnn] [bDoor] [1] [1] [[1]] bAnn bDoor a = some r) :
    Calls Try.prog 10 #[.agg #[.slice (some ⟨b, 0, none⟩) 1 1, .slice (some ⟨b + 1, 0, none⟩) 1 1, .slice (some ⟨b + 1 + 1, 0, none⟩) 1 1, .slice (some ⟨b + 1 + 1 + 1, 0, none⟩) 1 1, .slice (some ⟨b + 1 + 1 + 1 + 1, 0, none⟩) 1 1, .slice (some ⟨b + 1 + 1 + 1 + 1 + 1 + 1, 0, none⟩) 1 1], .agg #[.string bAnn, .string bDoor, .string a]] w fun e w' => e = .returned (.bool r) ∧ Below w.heap.size w w' :=
  PGraphDecide.graph_Decide.calls 10 _ 1 [bOpen] _ 1 [bAnn] _ 1 [bDoor] _ 1 [1] _ 1 [1] _ 1 [[1]] bAnn bDoor a r w h.h0 h.l0 h.h1 h.l1 h.h2 h.l2 h.h3 h.l3 h.h4 h.l4 h.h5 h.l5 hr

/-- It lies there, and its variable (six cells) behind it. -/
structure Lies (b : Nat) (W : World) : Prop where
  graph : (g0 b).In W
  c0 : W.cell? ⟨b + 1 + 1 + 1 + 1 + 1 + 1 + 1, 0, none⟩ = some (.slice (some ⟨b, 0, none⟩) 1 1)
  c1 : W.cell? ⟨b + 1 + 1 + 1 + 1 + 1 + 1 + 1, 1, none⟩ = some (.slice (some ⟨b + 1, 0, none⟩) 1 1)
  c2 : W.cell? ⟨b + 1 + 1 + 1 + 1 + 1 + 1 + 1, 2, none⟩ = some (.slice (some ⟨b + 1 + 1, 0, none⟩) 1 1)
  c3 : W.cell? ⟨b + 1 + 1 + 1 + 1 + 1 + 1 + 1, 3, none⟩ = some (.slice (some ⟨b + 1 + 1 + 1, 0, none⟩) 1 1)
  c4 : W.cell? ⟨b + 1 + 1 + 1 + 1 + 1 + 1 + 1, 4, none⟩ = some (.slice (some ⟨b + 1 + 1 + 1 + 1, 0, none⟩) 1 1)
  c5 : W.cell? ⟨b + 1 + 1 + 1 + 1 + 1 + 1 + 1, 5, none⟩ = some (.slice (some ⟨b + 1 + 1 + 1 + 1 + 1 + 1, 0, none⟩) 1 1)
theorem Lies.below {b : Nat} {W W1 : World} (h : Lies b W) (hb : Below W.heap.size W W1) : Lies b W1 :=
  ⟨h.graph.below hb, pw_cell_below hb h.c0, pw_cell_below hb h.c1, pw_cell_below hb h.c2, pw_cell_below hb h.c3, pw_cell_below hb h.c4, pw_cell_below hb h.c5⟩

set_option maxHeartbeats 2000000 in
set_option maxRecDepth 100000 in
theorem law_calls (w : World) : Calls Try.prog 5 #[] w fun e w' => e = .returned (.bool true) ∧ Below w.heap.size w w' := by
  have hu26 := Try.underlying26
  go_enter Try.func5, Try.ntmps5
  go_upto_region 2 with fail
  generalize hW : World.alloc _ _ = W
  have hb : Below w.heap.size w W := by subst hW; repeat (first | exact Below.refl _ _ | refine below_alloc ?_ _)
  have hl : Lies w.heap.size W := by
    refine ⟨g0_in ?_ ?_ ?_ ?_ ?_ ?_ ?_, ?_, ?_, ?_, ?_, ?_, ?_⟩ <;> (subst hW; go_simp)
  clear hW
  have e0 := hl.c0
  have e1 := hl.c1
  have e2 := hl.c2
  have e3 := hl.c3
  have e4 := hl.c4
  have e5 := hl.c5
  have LL := Aside0.mk hl
  have LB := Aside0.mk hb
  clear hl hb
  go_wp2_with (first | (go_at_call 12; ((with_reducible refine (valid_go w.heap.size _ LL.out.graph).mono ?_); rintro e w2 ⟨rfl, hb2⟩; have LL2 := LL.out.below hb2; have LB2 := below_then LB.out LB.out.size hb2; clear LL LB e0 e1 e2 e3 e4 e5 hb2; have e0 := LL2.c0; have e1 := LL2.c1; have e2 := LL2.c2; have e3 := LL2.c3; have e4 := LL2.c4; have e5 := LL2.c5; have LL := Aside0.mk LL2; have LB := Aside0.mk LB2; clear LL2 LB2)) | (go_at_call 10; (with_reducible refine (decide_go w.heap.size _ LL.out.graph ⟨#[111, 112, 101, 110]⟩ true says_yes).mono ?_); rintro e w2 ⟨rfl, hb2⟩; have LL2 := LL.out.below hb2; have LB2 := below_then LB.out LB.out.size hb2; clear LL LB e0 e1 e2 e3 e4 e5 hb2; have e0 := LL2.c0; have e1 := LL2.c1; have e2 := LL2.c2; have e3 := LL2.c3; have e4 := LL2.c4; have e5 := LL2.c5; have LL := Aside0.mk LL2; have LB := Aside0.mk LB2; clear LL2 LB2) | (go_at_call 10; (with_reducible refine (decide_go w.heap.size _ LL.out.graph ⟨#[114, 101, 97, 100]⟩ false says_no).mono ?_); rintro e w2 ⟨rfl, hb2⟩; have LL2 := LL.out.below hb2; have LB2 := below_then LB.out LB.out.size hb2; clear LL LB e0 e1 e2 e3 e4 e5 hb2; have e0 := LL2.c0; have e1 := LL2.c1; have e2 := LL2.c2; have e3 := LL2.c3; have e4 := LL2.c4; have e5 := LL2.c5; have LL := Aside0.mk LL2; have LB := Aside0.mk LB2; clear LL2 LB2))
  go_ret
  exact ⟨rfl, LB.out⟩
end Go.Proofs.Ythaiodklfoegiaa.GNames
