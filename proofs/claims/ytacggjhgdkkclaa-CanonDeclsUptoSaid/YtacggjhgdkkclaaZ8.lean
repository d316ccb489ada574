/- Of this session's texts, what the row uses: PGx20. -/
import Derived.Test.YtacggjhgdkkclaaZ2
import Derived.Test.YtacggjhgdkkclaaZ7
namespace Go.Proofs.Ytacggjhgdkkclaa.PG
open Go.Proofs.YtacggjhgdkkclaaF
attribute [local go_sem high] run_feq run_fne run_flt_lt run_flt_le run_flt_gt run_flt_ge
open Go.RowKit Go.Proofs.YtacggjhgdkkclaaW.PrintWords Go.Proofs.YtacggjhgdkkclaaW.PrintLast Go.Proofs.YtacggjhgdkkclaaW.PrintMore
attribute [local go_sem] max2_int min2_int max_two min_two max_three min_three max_four min_four   -- for this text's walks alone
set_option linter.unusedVariables false
set_option linter.unusedSimpArgs false
/-! ### gatehouseref05_SameDecls: function 9 -/
def gatehouseref05_SameDecls.l0 : Nat → List (S47) → List (S47) → Int → Option (Bool)
 | 0, _, _, _ => none
 | k + 1, x0, x1, x5 => if x5 < (x0.length : Int) then (if 0 ≤ x5 then (if x5 < (x1.length : Int) then ((gatehouseref05_SameDecl.f k ((rd_T47 x0 x5).f0) ((rd_T47 x0 x5).f1) ((rd_T47 x0 x5).f2) ((rd_T47 x0 x5).f3.f0) ((rd_T47 x0 x5).f3.f1) ((rd_T47 x0 x5).f3.f2) ((rd_T47 x0 x5).f4.f0) ((rd_T47 x0 x5).f4.f1) ((rd_T47 x0 x5).f4.f2) ((rd_T47 x0 x5).f5) ((rd_T47 x0 x5).f6) ((rd_T47 x0 x5).f7) ((rd_T47 x0 x5).f8) ((rd_T47 x1 x5).f0) ((rd_T47 x1 x5).f1) ((rd_T47 x1 x5).f2) ((rd_T47 x1 x5).f3.f0) ((rd_T47 x1 x5).f3.f1) ((rd_T47 x1 x5).f3.f2) ((rd_T47 x1 x5).f4.f0) ((rd_T47 x1 x5).f4.f1) ((rd_T47 x1 x5).f4.f2) ((rd_T47 x1 x5).f5) ((rd_T47 x1 x5).f6) ((rd_T47 x1 x5).f7) ((rd_T47 x1 x5).f8)).bind fun t382 => (if t382 = true then (gatehouseref05_SameDecls.l0 k x0 x1 (wrap64 (x5 + 1))) else (some false))) else (none)) else (none)) else (some true)
def gatehouseref05_SameDecls.f (k : Nat) (l0 : List (S47)) (l1 : List (S47)) : Option (Bool) := if (l0.length : Int) = (l1.length : Int) then (gatehouseref05_SameDecls.l0 k l0 l1 0) else (some false)
theorem gatehouseref05_SameDecls.mono_l : ∀ k, (∀ y0 y1 y2, LeO (gatehouseref05_SameDecls.l0 k y0 y1 y2) (gatehouseref05_SameDecls.l0 (k + 1) y0 y1 y2))
 | 0 => fun _ _ _ r h => by simp [gatehouseref05_SameDecls.l0] at h
 | k + 1 => by
  have ih0 := gatehouseref05_SameDecls.mono_l k
  ·intro y0 y1 y2
   unfold gatehouseref05_SameDecls.l0
   repeat' first
   | (with_reducible exact ih0 _ _ _)
   | (with_reducible exact gatehouseref05_SameDecl.mono _ _ _ _ _ _ _ _ _ _ _ _ _ _ _ _ _ _ _ _ _ _ _ _ _ _ _)
   | (with_reducible exact LeO.refl _)
   | (with_reducible exact LeO.none _)
   | (with_reducible refine LeO.ite ?_ ?_)
   | (with_reducible refine LeO.bind ?_ (fun _ => ?_))
   | exact ih0 _ _ _
   | exact gatehouseref05_SameDecl.mono _ _ _ _ _ _ _ _ _ _ _ _ _ _ _ _ _ _ _ _ _ _ _ _ _ _ _
   | exact LeO.none _
   | refine LeO.ite ?_ ?_
   | refine LeO.bind ?_ (fun _ => ?_)
theorem gatehouseref05_SameDecls.mono : ∀ a0 a1 k, LeO (gatehouseref05_SameDecls.f k a0 a1) (gatehouseref05_SameDecls.f (k + 1) a0 a1) := by
 intro a0 a1 k
 have ih0 := gatehouseref05_SameDecls.mono_l k
 unfold gatehouseref05_SameDecls.f
 repeat' first
   | (with_reducible exact ih0 _ _ _)
   | (with_reducible exact gatehouseref05_SameDecl.mono _ _ _ _ _ _ _ _ _ _ _ _ _ _ _ _ _ _ _ _ _ _ _ _ _ _ _)
   | (with_reducible exact LeO.refl _)
   | (with_reducible exact LeO.none _)
   | (with_reducible refine LeO.ite ?_ ?_)
   | (with_reducible refine LeO.bind ?_ (fun _ => ?_))
   | exact ih0 _ _ _
   | exact gatehouseref05_SameDecl.mono _ _ _ _ _ _ _ _ _ _ _ _ _ _ _ _ _ _ _ _ _ _ _ _ _ _ _
   | exact LeO.none _
   | refine LeO.ite ?_ ?_
   | refine LeO.bind ?_ (fun _ => ?_)
def gatehouseref05_SameDecls.T6 : Bool × List (List Nat × List Nat) := (true, [([], []), ([], []), ([0, 1], [0, 1]), ([2], [2]), ([], []), ([], []), ([4, 5], [4, 5]), ([6], [6]), ([3, 7], [3, 7]), ([8, 8, 0, 1, 2, 3, 4, 5, 6, 7, 8], [8])])
def gatehouseref05_SameDecls.B6 : List Nat := [0, 0, 3, 7, 0, 0, 48, 112, 255, 511]
theorem gatehouseref05_SameDecls.tab6 : rtab .any (opsOf Try.f9 6) = gatehouseref05_SameDecls.T6 := by kernel_rfl
theorem gatehouseref05_SameDecls.bits6 : waitsOk gatehouseref05_SameDecls.T6.2 gatehouseref05_SameDecls.B6 = true := by kernel_rfl
set_option maxHeartbeats 8000000 in
set_option maxRecDepth 100000 in
theorem gatehouseref05_SameDecls.calls (k : Nat) (A0 : Option Addr) (c0 : Nat) (l0 : List (S47)) (A1 : Option Addr) (c1 : Nat) (l1 : List (S47)) (r : Bool) (w : World) (hr0 : Kd.C k47 w A0 l0.length l0) (hc0 : l0.length ≤ c0) (hr1 : Kd.C k47 w A1 l1.length l1) (hc1 : l1.length ≤ c1) (h : gatehouseref05_SameDecls.f k l0 l1 = some r) :
  Calls Try.prog 9 #[.slice A0 l0.length c0, .slice A1 l1.length c1] w fun e w' => e = .returned (.bool r) ∧ Below w.heap.size w w' := by
 have hu47 := Try.underlying47
 have HR0 := Aside0.mk hr0
 have HC0 := Aside0.mk hc0
 clear hr0 hc0
 have HR1 := Aside0.mk hr1
 have HC1 := Aside0.mk hc1
 clear hr1 hc1
 have HB := Aside0.mk (Below.refl w.heap.size w)
 have H : (if (l0.length : Int) = (l1.length : Int) then (gatehouseref05_SameDecls.l0 k l0 l1 0) else (some false)) = some r := h
 clear h
 by_cases c3 : (l0.length : Int) = (l1.length : Int)
 ·rw [if_pos c3] at H
  have c3b0 : ((l0.length : Int) == (l1.length : Int)) = true := beq_iff_eq.mpr c3
  have c3b1 : ((l0.length : Int) != (l1.length : Int)) = false := bne_eq_false_iff_eq.mpr c3
  have c3b2 : (l0.length == l1.length) = true := by first | simpa using c3 | (simp at c3 ⊢; omega)
  clear c3
  have H' := Aside0.mk H
  clear H
  go_enter Try.func9, Try.ntmps9
  go_wp2
  go_loopg [5] k (fun kq v5 w' => ∃ (x5_1 : Int), v5 = .int .i64 x5_1 ∧ Aside0 (gatehouseref05_SameDecls.l0 kq l0 l1 x5_1 = some r) ∧ Aside0 (kq ≤ k) ∧ Aside0 (Below w.heap.size w w'))
  case atStart => exact ⟨(0), (by first | rfl | (simp; done) | (simp [*]; done)), H', ⟨Nat.le_refl _⟩, ⟨by repeat (first | (with_reducible first | exact HB.out | apply below_alloc | apply pw_below_drewN | apply below_drew1) | exact HB.out)⟩⟩
  case round =>
   clear H'
   try clear c1
   try clear p2
   try clear c3
   try clear c3b0
   try clear c3b1
   try clear c3b2
   obtain ⟨x5_1, rfl, HA, HK1, HB⟩ := hrel
   cases gk with
   | zero => exact absurd HA.out (by simp [gatehouseref05_SameDecls.l0])
   | succ k1 =>
    have H := HA.out
    clear HA
    simp only [gatehouseref05_SameDecls.l0] at H
    by_cases c4 : x5_1 < (l0.length : Int)
    ·rw [if_pos c4] at H
     have c4b0 : decide (x5_1 < (l0.length : Int)) = true := decide_eq_true c4
     clear c4
     by_cases c5 : 0 ≤ x5_1
     ·rw [if_pos c5] at H
      have c5b0 : decide (0 ≤ x5_1) = true := decide_eq_true c5
      clear c5
      by_cases c6 : x5_1 < (l1.length : Int)
      ·rw [if_pos c6] at H
       have c6b0 : decide (x5_1 < (l1.length : Int)) = true := decide_eq_true c6
       clear c6
       replace H := Option.bind_eq_some_iff.mp H
       obtain ⟨t382, A70, H⟩ := H
       replace H : (if t382 = true then (gatehouseref05_SameDecls.l0 k1 l0 l1 (wrap64 (x5_1 + 1))) else (some false)) = some r := H
       have A7 := Aside0.mk A70
       clear A70
       by_cases c8 : t382 = true
       ·subst c8
        have H1 : (gatehouseref05_SameDecls.l0 k1 l0 l1 (wrap64 (x5_1 + 1))) = some r := by rw [if_pos rfl] at H; exact H
        clear H
        have H := H1
        clear H1
        have H' := Aside0.mk H
        clear H
        try go_wp2
        have n0_ := Aside0.mk (below_drew1 HB.out)
        clear HB
        have HB := n0_
        clear n0_
        have p380 : 0 ≤ (x5_1 : Int) := of_decide_eq_true (by first | (with_reducible assumption) | assumption)
        have q380 : x5_1 < (l0.length : Int) := of_decide_eq_true (by first | (with_reducible assumption) | assumption)
        obtain ⟨ad380, A380_9, c380_9, e380, hx380_0, hx380_1, hx380_2, hx380_3, hx380_4, hx380_5, hx380_6, hx380_7, hx380_8, hx380_9, hx380_10, hx380_11, hx380_12, hl380_9, hi380_9⟩ := at_T47 HR0.out x5_1 p380 q380
        have hw380_12 := hx380_12
        have hw380_11 := hx380_11
        have hw380_10 := hx380_10
        have hw380_9 := hx380_9
        have hw380_8 := hx380_8
        have hw380_7 := hx380_7
        have hw380_6 := hx380_6
        have hw380_5 := hx380_5
        have hw380_4 := hx380_4
        have hw380_3 := hx380_3
        have hw380_2 := hx380_2
        have hw380_1 := hx380_1
        have hw380_0 := hx380_0
        cases e380
        replace hx380_0 := (HB.out.cell (World.block_lt_of_cell? w _ hx380_0)).trans hx380_0
        replace hx380_1 := (HB.out.cell (World.block_lt_of_cell? w _ hx380_1)).trans hx380_1
        replace hx380_2 := (HB.out.cell (World.block_lt_of_cell? w _ hx380_2)).trans hx380_2
        replace hx380_3 := (HB.out.cell (World.block_lt_of_cell? w _ hx380_3)).trans hx380_3
        replace hx380_4 := (HB.out.cell (World.block_lt_of_cell? w _ hx380_4)).trans hx380_4
        replace hx380_5 := (HB.out.cell (World.block_lt_of_cell? w _ hx380_5)).trans hx380_5
        replace hx380_6 := (HB.out.cell (World.block_lt_of_cell? w _ hx380_6)).trans hx380_6
        replace hx380_7 := (HB.out.cell (World.block_lt_of_cell? w _ hx380_7)).trans hx380_7
        replace hx380_8 := (HB.out.cell (World.block_lt_of_cell? w _ hx380_8)).trans hx380_8
        replace hx380_9 := (HB.out.cell (World.block_lt_of_cell? w _ hx380_9)).trans hx380_9
        replace hx380_10 := (HB.out.cell (World.block_lt_of_cell? w _ hx380_10)).trans hx380_10
        replace hx380_11 := (HB.out.cell (World.block_lt_of_cell? w _ hx380_11)).trans hx380_11
        replace hx380_12 := (HB.out.cell (World.block_lt_of_cell? w _ hx380_12)).trans hx380_12
        have HR380_9 := Aside0.mk hi380_9
        have HC380_9 := Aside0.mk hl380_9
        clear hi380_9 hl380_9
        replace p380 := eq_true p380
        replace q380 := eq_true q380
        have p381 : 0 ≤ (x5_1 : Int) := of_decide_eq_true (by first | (with_reducible assumption) | assumption)
        have q381 : x5_1 < (l1.length : Int) := of_decide_eq_true (by first | (with_reducible assumption) | assumption)
        obtain ⟨ad381, A381_9, c381_9, e381, hx381_0, hx381_1, hx381_2, hx381_3, hx381_4, hx381_5, hx381_6, hx381_7, hx381_8, hx381_9, hx381_10, hx381_11, hx381_12, hl381_9, hi381_9⟩ := at_T47 HR1.out x5_1 p381 q381
        have hw381_12 := hx381_12
        have hw381_11 := hx381_11
        have hw381_10 := hx381_10
        have hw381_9 := hx381_9
        have hw381_8 := hx381_8
        have hw381_7 := hx381_7
        have hw381_6 := hx381_6
        have hw381_5 := hx381_5
        have hw381_4 := hx381_4
        have hw381_3 := hx381_3
        have hw381_2 := hx381_2
        have hw381_1 := hx381_1
        have hw381_0 := hx381_0
        cases e381
        replace hx381_0 := (HB.out.cell (World.block_lt_of_cell? w _ hx381_0)).trans hx381_0
        replace hx381_1 := (HB.out.cell (World.block_lt_of_cell? w _ hx381_1)).trans hx381_1
        replace hx381_2 := (HB.out.cell (World.block_lt_of_cell? w _ hx381_2)).trans hx381_2
        replace hx381_3 := (HB.out.cell (World.block_lt_of_cell? w _ hx381_3)).trans hx381_3
        replace hx381_4 := (HB.out.cell (World.block_lt_of_cell? w _ hx381_4)).trans hx381_4
        replace hx381_5 := (HB.out.cell (World.block_lt_of_cell? w _ hx381_5)).trans hx381_5
        replace hx381_6 := (HB.out.cell (World.block_lt_of_cell? w _ hx381_6)).trans hx381_6
        replace hx381_7 := (HB.out.cell (World.block_lt_of_cell? w _ hx381_7)).trans hx381_7
        replace hx381_8 := (HB.out.cell (World.block_lt_of_cell? w _ hx381_8)).trans hx381_8
        replace hx381_9 := (HB.out.cell (World.block_lt_of_cell? w _ hx381_9)).trans hx381_9
        replace hx381_10 := (HB.out.cell (World.block_lt_of_cell? w _ hx381_10)).trans hx381_10
        replace hx381_11 := (HB.out.cell (World.block_lt_of_cell? w _ hx381_11)).trans hx381_11
        replace hx381_12 := (HB.out.cell (World.block_lt_of_cell? w _ hx381_12)).trans hx381_12
        have HR381_9 := Aside0.mk hi381_9
        have HC381_9 := Aside0.mk hl381_9
        clear hi381_9 hl381_9
        replace p381 := eq_true p381
        replace q381 := eq_true q381
        refine start_ (n := 10) (S := fun w' => w'.cell? (ad380.add ((x5_1).toNat * 13)) = some (.int .i8 ((rd_T47 l0 x5_1).f0)) ∧ w'.cell? ⟨(ad380.add ((x5_1).toNat * 13)).block, (ad380.add ((x5_1).toNat * 13)).off + 1, none⟩ = some (.int .i64 ((rd_T47 l0 x5_1).f1)) ∧ w'.cell? ⟨(ad380.add ((x5_1).toNat * 13)).block, (ad380.add ((x5_1).toNat * 13)).off + 2, none⟩ = some (.int .i64 ((rd_T47 l0 x5_1).f2)) ∧ w'.cell? ⟨(ad380.add ((x5_1).toNat * 13)).block, (ad380.add ((x5_1).toNat * 13)).off + 3, none⟩ = some (.string ((rd_T47 l0 x5_1).f3.f0)) ∧ w'.cell? ⟨(ad380.add ((x5_1).toNat * 13)).block, (ad380.add ((x5_1).toNat * 13)).off + 4, none⟩ = some (.int .i64 ((rd_T47 l0 x5_1).f3.f1)) ∧ w'.cell? ⟨(ad380.add ((x5_1).toNat * 13)).block, (ad380.add ((x5_1).toNat * 13)).off + 5, none⟩ = some (.int .i64 ((rd_T47 l0 x5_1).f3.f2)) ∧ w'.cell? ⟨(ad380.add ((x5_1).toNat * 13)).block, (ad380.add ((x5_1).toNat * 13)).off + 6, none⟩ = some (.string ((rd_T47 l0 x5_1).f4.f0)) ∧ w'.cell? ⟨(ad380.add ((x5_1).toNat * 13)).block, (ad380.add ((x5_1).toNat * 13)).off + 7, none⟩ = some (.int .i64 ((rd_T47 l0 x5_1).f4.f1)) ∧ w'.cell? ⟨(ad380.add ((x5_1).toNat * 13)).block, (ad380.add ((x5_1).toNat * 13)).off + 8, none⟩ = some (.int .i64 ((rd_T47 l0 x5_1).f4.f2)) ∧ w'.cell? ⟨(ad380.add ((x5_1).toNat * 13)).block, (ad380.add ((x5_1).toNat * 13)).off + 9, none⟩ = some (.slice A380_9 ((rd_T47 l0 x5_1).f5).length c380_9) ∧ w'.cell? ⟨(ad380.add ((x5_1).toNat * 13)).block, (ad380.add ((x5_1).toNat * 13)).off + 10, none⟩ = some (.bool ((rd_T47 l0 x5_1).f6)) ∧ w'.cell? ⟨(ad380.add ((x5_1).toNat * 13)).block, (ad380.add ((x5_1).toNat * 13)).off + 11, none⟩ = some (.int .i8 ((rd_T47 l0 x5_1).f7)) ∧ w'.cell? ⟨(ad380.add ((x5_1).toNat * 13)).block, (ad380.add ((x5_1).toNat * 13)).off + 12, none⟩ = some (.float .f64 ((rd_T47 l0 x5_1).f8)) ∧ w'.cell? (ad381.add ((x5_1).toNat * 13)) = some (.int .i8 ((rd_T47 l1 x5_1).f0)) ∧ w'.cell? ⟨(ad381.add ((x5_1).toNat * 13)).block, (ad381.add ((x5_1).toNat * 13)).off + 1, none⟩ = some (.int .i64 ((rd_T47 l1 x5_1).f1)) ∧ w'.cell? ⟨(ad381.add ((x5_1).toNat * 13)).block, (ad381.add ((x5_1).toNat * 13)).off + 2, none⟩ = some (.int .i64 ((rd_T47 l1 x5_1).f2)) ∧ w'.cell? ⟨(ad381.add ((x5_1).toNat * 13)).block, (ad381.add ((x5_1).toNat * 13)).off + 3, none⟩ = some (.string ((rd_T47 l1 x5_1).f3.f0)) ∧ w'.cell? ⟨(ad381.add ((x5_1).toNat * 13)).block, (ad381.add ((x5_1).toNat * 13)).off + 4, none⟩ = some (.int .i64 ((rd_T47 l1 x5_1).f3.f1)) ∧ w'.cell? ⟨(ad381.add ((x5_1).toNat * 13)).block, (ad381.add ((x5_1).toNat * 13)).off + 5, none⟩ = some (.int .i64 ((rd_T47 l1 x5_1).f3.f2)) ∧ w'.cell? ⟨(ad381.add ((x5_1).toNat * 13)).block, (ad381.add ((x5_1).toNat * 13)).off + 6, none⟩ = some (.string ((rd_T47 l1 x5_1).f4.f0)) ∧ w'.cell? ⟨(ad381.add ((x5_1).toNat * 13)).block, (ad381.add ((x5_1).toNat * 13)).off + 7, none⟩ = some (.int .i64 ((rd_T47 l1 x5_1).f4.f1)) ∧ w'.cell? ⟨(ad381.add ((x5_1).toNat * 13)).block, (ad381.add ((x5_1).toNat * 13)).off + 8, none⟩ = some (.int .i64 ((rd_T47 l1 x5_1).f4.f2)) ∧ w'.cell? ⟨(ad381.add ((x5_1).toNat * 13)).block, (ad381.add ((x5_1).toNat * 13)).off + 9, none⟩ = some (.slice A381_9 ((rd_T47 l1 x5_1).f5).length c381_9) ∧ w'.cell? ⟨(ad381.add ((x5_1).toNat * 13)).block, (ad381.add ((x5_1).toNat * 13)).off + 10, none⟩ = some (.bool ((rd_T47 l1 x5_1).f6)) ∧ w'.cell? ⟨(ad381.add ((x5_1).toNat * 13)).block, (ad381.add ((x5_1).toNat * 13)).off + 11, none⟩ = some (.int .i8 ((rd_T47 l1 x5_1).f7)) ∧ w'.cell? ⟨(ad381.add ((x5_1).toNat * 13)).block, (ad381.add ((x5_1).toNat * 13)).off + 12, none⟩ = some (.float .f64 ((rd_T47 l1 x5_1).f8))) (ds := []) #[false, false, false, false, false, false, false, false, false, false] (by kernel_rfl) rfl rfl ⟨((HB.out.cell (World.block_lt_of_cell? w _ hw380_0)).trans hw380_0), ((HB.out.cell (World.block_lt_of_cell? w _ hw380_1)).trans hw380_1), ((HB.out.cell (World.block_lt_of_cell? w _ hw380_2)).trans hw380_2), ((HB.out.cell (World.block_lt_of_cell? w _ hw380_3)).trans hw380_3), ((HB.out.cell (World.block_lt_of_cell? w _ hw380_4)).trans hw380_4), ((HB.out.cell (World.block_lt_of_cell? w _ hw380_5)).trans hw380_5), ((HB.out.cell (World.block_lt_of_cell? w _ hw380_6)).trans hw380_6), ((HB.out.cell (World.block_lt_of_cell? w _ hw380_7)).trans hw380_7), ((HB.out.cell (World.block_lt_of_cell? w _ hw380_8)).trans hw380_8), ((HB.out.cell (World.block_lt_of_cell? w _ hw380_9)).trans hw380_9), ((HB.out.cell (World.block_lt_of_cell? w _ hw380_10)).trans hw380_10), ((HB.out.cell (World.block_lt_of_cell? w _ hw380_11)).trans hw380_11), ((HB.out.cell (World.block_lt_of_cell? w _ hw380_12)).trans hw380_12), ((HB.out.cell (World.block_lt_of_cell? w _ hw381_0)).trans hw381_0), ((HB.out.cell (World.block_lt_of_cell? w _ hw381_1)).trans hw381_1), ((HB.out.cell (World.block_lt_of_cell? w _ hw381_2)).trans hw381_2), ((HB.out.cell (World.block_lt_of_cell? w _ hw381_3)).trans hw381_3), ((HB.out.cell (World.block_lt_of_cell? w _ hw381_4)).trans hw381_4), ((HB.out.cell (World.block_lt_of_cell? w _ hw381_5)).trans hw381_5), ((HB.out.cell (World.block_lt_of_cell? w _ hw381_6)).trans hw381_6), ((HB.out.cell (World.block_lt_of_cell? w _ hw381_7)).trans hw381_7), ((HB.out.cell (World.block_lt_of_cell? w _ hw381_8)).trans hw381_8), ((HB.out.cell (World.block_lt_of_cell? w _ hw381_9)).trans hw381_9), ((HB.out.cell (World.block_lt_of_cell? w _ hw381_10)).trans hw381_10), ((HB.out.cell (World.block_lt_of_cell? w _ hw381_11)).trans hw381_11), ((HB.out.cell (World.block_lt_of_cell? w _ hw381_12)).trans hw381_12)⟩ (fun hHeld => ?_); refine with_tabW gatehouseref05_SameDecls.tab6 gatehouseref05_SameDecls.bits6 (fun HT_ HW_ => ?_)
        generalize wr.drew = w9 at HB HR380_9 HR381_9 hx380_0 hx380_1 hx380_10 hx380_11 hx380_12 hx380_2 hx380_3 hx380_4 hx380_5 hx380_6 hx380_7 hx380_8 hx380_9 hx381_0 hx381_1 hx381_10 hx381_11 hx381_12 hx381_2 hx381_3 hx381_4 hx381_5 hx381_6 hx381_7 hx381_8 hx381_9 hHeld ⊢
        refine pure_ (i := 0) (N := some 18) (v := ?_) (a' := ?_) #[true, false, false, false, false, false, false, false, false, false] rfl rfl (any_of HT_.out (by kernel_rfl)) (fun _ _ _ h => h) (Or.inl ⟨by rfl, ?_⟩) ?_ ?_
        rotate_left
        ·intro w'
         go_simp
         with_reducible rfl
        rotate_left
        ·simp only [Act.put, List.setIfInBounds_toArray, List.set_cons_zero, List.set_cons_succ, i64_w, i32_w]
         rfl
        refine pure_ (i := 1) (N := some 19) (v := ?_) (a' := ?_) #[true, true, false, false, false, false, false, false, false, false] rfl rfl (any_of HT_.out (by kernel_rfl)) (fun _ _ _ h => h) (Or.inl ⟨by rfl, ?_⟩) ?_ ?_
        rotate_left
        ·intro w'
         go_simp
         with_reducible rfl
        rotate_left
        ·simp only [Act.put, List.setIfInBounds_toArray, List.set_cons_zero, List.set_cons_succ, i64_w, i32_w]
         rfl
        refine pure_ (i := 2) (N := some 20) (v := ?_) (a' := ?_) #[true, true, true, false, false, false, false, false, false, false] rfl rfl (any_of HT_.out (by kernel_rfl)) (fun _ _ _ h => h) (Or.inl ⟨by rfl, ?_⟩) ?_ ?_
        rotate_left
        ·intro w'
         go_simp
         with_reducible rfl
        rotate_left
        ·simp only [Act.put, List.setIfInBounds_toArray, List.set_cons_zero, List.set_cons_succ, i64_w, i32_w]
         rfl
        refine pure_ (i := 4) (N := some 22) (v := ?_) (a' := ?_) #[true, true, true, false, true, false, false, false, false, false] rfl rfl (any_of HT_.out (by kernel_rfl)) (fun _ _ _ h => h) (Or.inl ⟨by rfl, ?_⟩) ?_ ?_
        rotate_left
        ·intro w'
         go_simp
         with_reducible rfl
        rotate_left
        ·simp only [Act.put, List.setIfInBounds_toArray, List.set_cons_zero, List.set_cons_succ, i64_w, i32_w]
         rfl
        refine pure_ (i := 5) (N := some 23) (v := ?_) (a' := ?_) #[true, true, true, false, true, true, false, false, false, false] rfl rfl (any_of HT_.out (by kernel_rfl)) (fun _ _ _ h => h) (Or.inl ⟨by rfl, ?_⟩) ?_ ?_
        rotate_left
        ·intro w'
         go_simp
         with_reducible rfl
        rotate_left
        ·simp only [Act.put, List.setIfInBounds_toArray, List.set_cons_zero, List.set_cons_succ, i64_w, i32_w]
         rfl
        refine pure_ (i := 6) (N := some 24) (v := ?_) (a' := ?_) #[true, true, true, false, true, true, true, false, false, false] rfl rfl (any_of HT_.out (by kernel_rfl)) (fun _ _ _ h => h) (Or.inl ⟨by rfl, ?_⟩) ?_ ?_
        rotate_left
        ·intro w'
         go_simp
         with_reducible rfl
        rotate_left
        ·simp only [Act.put, List.setIfInBounds_toArray, List.set_cons_zero, List.set_cons_succ, i64_w, i32_w]
         rfl
        refine take_ (i := 3) (N := some 21) (v := ?_) (a' := ?_) #[true, true, true, true, true, true, true, false, false, false] rfl rfl (take_ofW HT_.out HW_.out (by kernel_rfl)) (fun _ _ _ h => h) (Or.inl ⟨by rfl, ?_⟩) hHeld ?_ ?_
        rotate_left
        ·rintro w' ⟨s0, s1, s2, s3, s4, s5, s6, s7, s8, s9, s10, s11, s12, s13, s14, s15, s16, s17, s18, s19, s20, s21, s22, s23, s24, s25⟩
         go_simp
         with_reducible rfl
        rotate_left
        ·simp only [Act.put, List.setIfInBounds_toArray, List.set_cons_zero, List.set_cons_succ, i64_w, i32_w]
         rfl
        refine take_ (i := 7) (N := some 25) (v := ?_) (a' := ?_) #[true, true, true, true, true, true, true, true, false, false] rfl rfl (take_ofW HT_.out HW_.out (by kernel_rfl)) (fun _ _ _ h => h) (Or.inl ⟨by rfl, ?_⟩) hHeld ?_ ?_
        rotate_left
        ·rintro w' ⟨s0, s1, s2, s3, s4, s5, s6, s7, s8, s9, s10, s11, s12, s13, s14, s15, s16, s17, s18, s19, s20, s21, s22, s23, s24, s25⟩
         go_simp
         with_reducible rfl
        rotate_left
        ·simp only [Act.put, List.setIfInBounds_toArray, List.set_cons_zero, List.set_cons_succ, i64_w, i32_w]
         rfl
        refine one_ (i := 8) (N := some 26) #[true, true, true, true, true, true, true, true, true, false] rfl rfl (one_of HT_.out (by kernel_rfl)) (by decide) (fun K hK => ?_)
        refine goes_ Try.func25 (by kernel_rfl) rfl #[.agg #[.int .i8 ((rd_T47 l0 x5_1).f0), .int .i64 ((rd_T47 l0 x5_1).f1), .int .i64 ((rd_T47 l0 x5_1).f2), .string ((rd_T47 l0 x5_1).f3.f0), .int .i64 ((rd_T47 l0 x5_1).f3.f1), .int .i64 ((rd_T47 l0 x5_1).f3.f2), .string ((rd_T47 l0 x5_1).f4.f0), .int .i64 ((rd_T47 l0 x5_1).f4.f1), .int .i64 ((rd_T47 l0 x5_1).f4.f2), .slice A380_9 ((rd_T47 l0 x5_1).f5).length c380_9, .bool ((rd_T47 l0 x5_1).f6), .int .i8 ((rd_T47 l0 x5_1).f7), .float .f64 ((rd_T47 l0 x5_1).f8)], .agg #[.int .i8 ((rd_T47 l1 x5_1).f0), .int .i64 ((rd_T47 l1 x5_1).f1), .int .i64 ((rd_T47 l1 x5_1).f2), .string ((rd_T47 l1 x5_1).f3.f0), .int .i64 ((rd_T47 l1 x5_1).f3.f1), .int .i64 ((rd_T47 l1 x5_1).f3.f2), .string ((rd_T47 l1 x5_1).f4.f0), .int .i64 ((rd_T47 l1 x5_1).f4.f1), .int .i64 ((rd_T47 l1 x5_1).f4.f2), .slice A381_9 ((rd_T47 l1 x5_1).f5).length c381_9, .bool ((rd_T47 l1 x5_1).f6), .int .i8 ((rd_T47 l1 x5_1).f7), .float .f64 ((rd_T47 l1 x5_1).f8)]] (by rfl) rfl rfl (by (try simp only [List.map_toArray, List.map_cons, List.map_nil]); first | done | rfl | (simp only [List.length_drop, List.length_take]; rfl)) ?_
        with_reducible refine (gatehouseref05_SameDecl.calls k1 ((rd_T47 l0 x5_1).f0) ((rd_T47 l0 x5_1).f1) ((rd_T47 l0 x5_1).f2) ((rd_T47 l0 x5_1).f3.f0) ((rd_T47 l0 x5_1).f3.f1) ((rd_T47 l0 x5_1).f3.f2) ((rd_T47 l0 x5_1).f4.f0) ((rd_T47 l0 x5_1).f4.f1) ((rd_T47 l0 x5_1).f4.f2) _ _ ((rd_T47 l0 x5_1).f5) ((rd_T47 l0 x5_1).f6) ((rd_T47 l0 x5_1).f7) ((rd_T47 l0 x5_1).f8) ((rd_T47 l1 x5_1).f0) ((rd_T47 l1 x5_1).f1) ((rd_T47 l1 x5_1).f2) ((rd_T47 l1 x5_1).f3.f0) ((rd_T47 l1 x5_1).f3.f1) ((rd_T47 l1 x5_1).f3.f2) ((rd_T47 l1 x5_1).f4.f0) ((rd_T47 l1 x5_1).f4.f1) ((rd_T47 l1 x5_1).f4.f2) _ _ ((rd_T47 l1 x5_1).f5) ((rd_T47 l1 x5_1).f6) ((rd_T47 l1 x5_1).f7) ((rd_T47 l1 x5_1).f8) true _ ?side1 ?side2 ?side3 ?side4 A7.out).mono ?_
        (case side1 => repeat (first | exact (Kd.C_below HR380_9.out HB.out) | (with_reducible refine Kd.C_alloc ?_ _) | (with_reducible refine Kd.C_drewN ?_ _) | (with_reducible refine Kd.C_drew ?_)))
        (case side2 => exact HC380_9.out)
        (case side3 => repeat (first | exact (Kd.C_below HR381_9.out HB.out) | (with_reducible refine Kd.C_alloc ?_ _) | (with_reducible refine Kd.C_drewN ?_ _) | (with_reducible refine Kd.C_drew ?_)))
        (case side4 => exact HC381_9.out)
        rintro e w10 ⟨rfl, hb⟩
        refine ⟨_, rfl, ?_⟩
        have n0_ := Aside0.mk (below_step (by repeat (first | (with_reducible first | exact HB.out | apply below_alloc | apply pw_below_drewN | apply below_drew1) | exact HB.out)) hb)
        clear HB
        have HB := n0_
        clear n0_
        (try clear hb)
        (try clear hb2)
        (try clear hk)
        (try clear hi)
        refine hK.out _ _ ⟨((HB.out.cell (World.block_lt_of_cell? w _ hw380_0)).trans hw380_0), ((HB.out.cell (World.block_lt_of_cell? w _ hw380_1)).trans hw380_1), ((HB.out.cell (World.block_lt_of_cell? w _ hw380_2)).trans hw380_2), ((HB.out.cell (World.block_lt_of_cell? w _ hw380_3)).trans hw380_3), ((HB.out.cell (World.block_lt_of_cell? w _ hw380_4)).trans hw380_4), ((HB.out.cell (World.block_lt_of_cell? w _ hw380_5)).trans hw380_5), ((HB.out.cell (World.block_lt_of_cell? w _ hw380_6)).trans hw380_6), ((HB.out.cell (World.block_lt_of_cell? w _ hw380_7)).trans hw380_7), ((HB.out.cell (World.block_lt_of_cell? w _ hw380_8)).trans hw380_8), ((HB.out.cell (World.block_lt_of_cell? w _ hw380_9)).trans hw380_9), ((HB.out.cell (World.block_lt_of_cell? w _ hw380_10)).trans hw380_10), ((HB.out.cell (World.block_lt_of_cell? w _ hw380_11)).trans hw380_11), ((HB.out.cell (World.block_lt_of_cell? w _ hw380_12)).trans hw380_12), ((HB.out.cell (World.block_lt_of_cell? w _ hw381_0)).trans hw381_0), ((HB.out.cell (World.block_lt_of_cell? w _ hw381_1)).trans hw381_1), ((HB.out.cell (World.block_lt_of_cell? w _ hw381_2)).trans hw381_2), ((HB.out.cell (World.block_lt_of_cell? w _ hw381_3)).trans hw381_3), ((HB.out.cell (World.block_lt_of_cell? w _ hw381_4)).trans hw381_4), ((HB.out.cell (World.block_lt_of_cell? w _ hw381_5)).trans hw381_5), ((HB.out.cell (World.block_lt_of_cell? w _ hw381_6)).trans hw381_6), ((HB.out.cell (World.block_lt_of_cell? w _ hw381_7)).trans hw381_7), ((HB.out.cell (World.block_lt_of_cell? w _ hw381_8)).trans hw381_8), ((HB.out.cell (World.block_lt_of_cell? w _ hw381_9)).trans hw381_9), ((HB.out.cell (World.block_lt_of_cell? w _ hw381_10)).trans hw381_10), ((HB.out.cell (World.block_lt_of_cell? w _ hw381_11)).trans hw381_11), ((HB.out.cell (World.block_lt_of_cell? w _ hw381_12)).trans hw381_12)⟩ (fun hHeld => ?_)
        clear hK K
        refine norm_ (a' := ?_) ?_ ?_
        rotate_left
        ·show Act.put _ (some 26) _ = _
         simp only [Act.put, List.setIfInBounds_toArray, List.set_cons_zero, List.set_cons_succ, i64_w, i32_w]
         rfl
        refine pure_ (i := 9) (N := some 6) (v := ?_) (a' := ?_) #[true, true, true, true, true, true, true, true, true, true] rfl rfl (any_of HT_.out (by kernel_rfl)) (fun _ _ _ h => h) (Or.inl ⟨by rfl, ?_⟩) ?_ ?_
        rotate_left
        ·intro w'
         go_simp
         with_reducible rfl
        rotate_left
        ·simp only [Act.put, List.setIfInBounds_toArray, List.set_cons_zero, List.set_cons_succ, i64_w, i32_w]
         rfl
        refine done_ (done_of HT_.out (by kernel_rfl)) ?_
        try go_wp2
        go_roundg k1
        case measure => have := HK1.out; omega
        case rel => exact ⟨(wrap64 (x5_1 + 1)), (by first | rfl | (simp; done) | (simp [*]; done)), H', ⟨by have := HK1.out; omega⟩, ⟨by repeat (first | (with_reducible first | exact HB.out | apply below_alloc | apply pw_below_drewN | apply below_drew1) | exact HB.out)⟩⟩
       ·replace c8 := Bool.eq_false_iff.mpr c8
        subst c8
        have H1 : (some false) = some r := by rw [if_neg (show ¬ (false = true) by decide)] at H; exact H
        clear H
        have H := H1
        clear H1
        obtain rfl := Option.some.inj H
        try go_wp2
        have n0_ := Aside0.mk (below_drew1 HB.out)
        clear HB
        have HB := n0_
        clear n0_
        have p380 : 0 ≤ (x5_1 : Int) := of_decide_eq_true (by first | (with_reducible assumption) | assumption)
        have q380 : x5_1 < (l0.length : Int) := of_decide_eq_true (by first | (with_reducible assumption) | assumption)
        obtain ⟨ad380, A380_9, c380_9, e380, hx380_0, hx380_1, hx380_2, hx380_3, hx380_4, hx380_5, hx380_6, hx380_7, hx380_8, hx380_9, hx380_10, hx380_11, hx380_12, hl380_9, hi380_9⟩ := at_T47 HR0.out x5_1 p380 q380
        have hw380_12 := hx380_12
        have hw380_11 := hx380_11
        have hw380_10 := hx380_10
        have hw380_9 := hx380_9
        have hw380_8 := hx380_8
        have hw380_7 := hx380_7
        have hw380_6 := hx380_6
        have hw380_5 := hx380_5
        have hw380_4 := hx380_4
        have hw380_3 := hx380_3
        have hw380_2 := hx380_2
        have hw380_1 := hx380_1
        have hw380_0 := hx380_0
        cases e380
        replace hx380_0 := (HB.out.cell (World.block_lt_of_cell? w _ hx380_0)).trans hx380_0
        replace hx380_1 := (HB.out.cell (World.block_lt_of_cell? w _ hx380_1)).trans hx380_1
        replace hx380_2 := (HB.out.cell (World.block_lt_of_cell? w _ hx380_2)).trans hx380_2
        replace hx380_3 := (HB.out.cell (World.block_lt_of_cell? w _ hx380_3)).trans hx380_3
        replace hx380_4 := (HB.out.cell (World.block_lt_of_cell? w _ hx380_4)).trans hx380_4
        replace hx380_5 := (HB.out.cell (World.block_lt_of_cell? w _ hx380_5)).trans hx380_5
        replace hx380_6 := (HB.out.cell (World.block_lt_of_cell? w _ hx380_6)).trans hx380_6
        replace hx380_7 := (HB.out.cell (World.block_lt_of_cell? w _ hx380_7)).trans hx380_7
        replace hx380_8 := (HB.out.cell (World.block_lt_of_cell? w _ hx380_8)).trans hx380_8
        replace hx380_9 := (HB.out.cell (World.block_lt_of_cell? w _ hx380_9)).trans hx380_9
        replace hx380_10 := (HB.out.cell (World.block_lt_of_cell? w _ hx380_10)).trans hx380_10
        replace hx380_11 := (HB.out.cell (World.block_lt_of_cell? w _ hx380_11)).trans hx380_11
        replace hx380_12 := (HB.out.cell (World.block_lt_of_cell? w _ hx380_12)).trans hx380_12
        have HR380_9 := Aside0.mk hi380_9
        have HC380_9 := Aside0.mk hl380_9
        clear hi380_9 hl380_9
        replace p380 := eq_true p380
        replace q380 := eq_true q380
        have p381 : 0 ≤ (x5_1 : Int) := of_decide_eq_true (by first | (with_reducible assumption) | assumption)
        have q381 : x5_1 < (l1.length : Int) := of_decide_eq_true (by first | (with_reducible assumption) | assumption)
        obtain ⟨ad381, A381_9, c381_9, e381, hx381_0, hx381_1, hx381_2, hx381_3, hx381_4, hx381_5, hx381_6, hx381_7, hx381_8, hx381_9, hx381_10, hx381_11, hx381_12, hl381_9, hi381_9⟩ := at_T47 HR1.out x5_1 p381 q381
        have hw381_12 := hx381_12
        have hw381_11 := hx381_11
        have hw381_10 := hx381_10
        have hw381_9 := hx381_9
        have hw381_8 := hx381_8
        have hw381_7 := hx381_7
        have hw381_6 := hx381_6
        have hw381_5 := hx381_5
        have hw381_4 := hx381_4
        have hw381_3 := hx381_3
        have hw381_2 := hx381_2
        have hw381_1 := hx381_1
        have hw381_0 := hx381_0
        cases e381
        replace hx381_0 := (HB.out.cell (World.block_lt_of_cell? w _ hx381_0)).trans hx381_0
        replace hx381_1 := (HB.out.cell (World.block_lt_of_cell? w _ hx381_1)).trans hx381_1
        replace hx381_2 := (HB.out.cell (World.block_lt_of_cell? w _ hx381_2)).trans hx381_2
        replace hx381_3 := (HB.out.cell (World.block_lt_of_cell? w _ hx381_3)).trans hx381_3
        replace hx381_4 := (HB.out.cell (World.block_lt_of_cell? w _ hx381_4)).trans hx381_4
        replace hx381_5 := (HB.out.cell (World.block_lt_of_cell? w _ hx381_5)).trans hx381_5
        replace hx381_6 := (HB.out.cell (World.block_lt_of_cell? w _ hx381_6)).trans hx381_6
        replace hx381_7 := (HB.out.cell (World.block_lt_of_cell? w _ hx381_7)).trans hx381_7
        replace hx381_8 := (HB.out.cell (World.block_lt_of_cell? w _ hx381_8)).trans hx381_8
        replace hx381_9 := (HB.out.cell (World.block_lt_of_cell? w _ hx381_9)).trans hx381_9
        replace hx381_10 := (HB.out.cell (World.block_lt_of_cell? w _ hx381_10)).trans hx381_10
        replace hx381_11 := (HB.out.cell (World.block_lt_of_cell? w _ hx381_11)).trans hx381_11
        replace hx381_12 := (HB.out.cell (World.block_lt_of_cell? w _ hx381_12)).trans hx381_12
        have HR381_9 := Aside0.mk hi381_9
        have HC381_9 := Aside0.mk hl381_9
        clear hi381_9 hl381_9
        replace p381 := eq_true p381
        replace q381 := eq_true q381
        refine start_ (n := 10) (S := fun w' => w'.cell? (ad380.add ((x5_1).toNat * 13)) = some (.int .i8 ((rd_T47 l0 x5_1).f0)) ∧ w'.cell? ⟨(ad380.add ((x5_1).toNat * 13)).block, (ad380.add ((x5_1).toNat * 13)).off + 1, none⟩ = some (.int .i64 ((rd_T47 l0 x5_1).f1)) ∧ w'.cell? ⟨(ad380.add ((x5_1).toNat * 13)).block, (ad380.add ((x5_1).toNat * 13)).off + 2, none⟩ = some (.int .i64 ((rd_T47 l0 x5_1).f2)) ∧ w'.cell? ⟨(ad380.add ((x5_1).toNat * 13)).block, (ad380.add ((x5_1).toNat * 13)).off + 3, none⟩ = some (.string ((rd_T47 l0 x5_1).f3.f0)) ∧ w'.cell? ⟨(ad380.add ((x5_1).toNat * 13)).block, (ad380.add ((x5_1).toNat * 13)).off + 4, none⟩ = some (.int .i64 ((rd_T47 l0 x5_1).f3.f1)) ∧ w'.cell? ⟨(ad380.add ((x5_1).toNat * 13)).block, (ad380.add ((x5_1).toNat * 13)).off + 5, none⟩ = some (.int .i64 ((rd_T47 l0 x5_1).f3.f2)) ∧ w'.cell? ⟨(ad380.add ((x5_1).toNat * 13)).block, (ad380.add ((x5_1).toNat * 13)).off + 6, none⟩ = some (.string ((rd_T47 l0 x5_1).f4.f0)) ∧ w'.cell? ⟨(ad380.add ((x5_1).toNat * 13)).block, (ad380.add ((x5_1).toNat * 13)).off + 7, none⟩ = some (.int .i64 ((rd_T47 l0 x5_1).f4.f1)) ∧ w'.cell? ⟨(ad380.add ((x5_1).toNat * 13)).block, (ad380.add ((x5_1).toNat * 13)).off + 8, none⟩ = some (.int .i64 ((rd_T47 l0 x5_1).f4.f2)) ∧ w'.cell? ⟨(ad380.add ((x5_1).toNat * 13)).block, (ad380.add ((x5_1).toNat * 13)).off + 9, none⟩ = some (.slice A380_9 ((rd_T47 l0 x5_1).f5).length c380_9) ∧ w'.cell? ⟨(ad380.add ((x5_1).toNat * 13)).block, (ad380.add ((x5_1).toNat * 13)).off + 10, none⟩ = some (.bool ((rd_T47 l0 x5_1).f6)) ∧ w'.cell? ⟨(ad380.add ((x5_1).toNat * 13)).block, (ad380.add ((x5_1).toNat * 13)).off + 11, none⟩ = some (.int .i8 ((rd_T47 l0 x5_1).f7)) ∧ w'.cell? ⟨(ad380.add ((x5_1).toNat * 13)).block, (ad380.add ((x5_1).toNat * 13)).off + 12, none⟩ = some (.float .f64 ((rd_T47 l0 x5_1).f8)) ∧ w'.cell? (ad381.add ((x5_1).toNat * 13)) = some (.int .i8 ((rd_T47 l1 x5_1).f0)) ∧ w'.cell? ⟨(ad381.add ((x5_1).toNat * 13)).block, (ad381.add ((x5_1).toNat * 13)).off + 1, none⟩ = some (.int .i64 ((rd_T47 l1 x5_1).f1)) ∧ w'.cell? ⟨(ad381.add ((x5_1).toNat * 13)).block, (ad381.add ((x5_1).toNat * 13)).off + 2, none⟩ = some (.int .i64 ((rd_T47 l1 x5_1).f2)) ∧ w'.cell? ⟨(ad381.add ((x5_1).toNat * 13)).block, (ad381.add ((x5_1).toNat * 13)).off + 3, none⟩ = some (.string ((rd_T47 l1 x5_1).f3.f0)) ∧ w'.cell? ⟨(ad381.add ((x5_1).toNat * 13)).block, (ad381.add ((x5_1).toNat * 13)).off + 4, none⟩ = some (.int .i64 ((rd_T47 l1 x5_1).f3.f1)) ∧ w'.cell? ⟨(ad381.add ((x5_1).toNat * 13)).block, (ad381.add ((x5_1).toNat * 13)).off + 5, none⟩ = some (.int .i64 ((rd_T47 l1 x5_1).f3.f2)) ∧ w'.cell? ⟨(ad381.add ((x5_1).toNat * 13)).block, (ad381.add ((x5_1).toNat * 13)).off + 6, none⟩ = some (.string ((rd_T47 l1 x5_1).f4.f0)) ∧ w'.cell? ⟨(ad381.add ((x5_1).toNat * 13)).block, (ad381.add ((x5_1).toNat * 13)).off + 7, none⟩ = some (.int .i64 ((rd_T47 l1 x5_1).f4.f1)) ∧ w'.cell? ⟨(ad381.add ((x5_1).toNat * 13)).block, (ad381.add ((x5_1).toNat * 13)).off + 8, none⟩ = some (.int .i64 ((rd_T47 l1 x5_1).f4.f2)) ∧ w'.cell? ⟨(ad381.add ((x5_1).toNat * 13)).block, (ad381.add ((x5_1).toNat * 13)).off + 9, none⟩ = some (.slice A381_9 ((rd_T47 l1 x5_1).f5).length c381_9) ∧ w'.cell? ⟨(ad381.add ((x5_1).toNat * 13)).block, (ad381.add ((x5_1).toNat * 13)).off + 10, none⟩ = some (.bool ((rd_T47 l1 x5_1).f6)) ∧ w'.cell? ⟨(ad381.add ((x5_1).toNat * 13)).block, (ad381.add ((x5_1).toNat * 13)).off + 11, none⟩ = some (.int .i8 ((rd_T47 l1 x5_1).f7)) ∧ w'.cell? ⟨(ad381.add ((x5_1).toNat * 13)).block, (ad381.add ((x5_1).toNat * 13)).off + 12, none⟩ = some (.float .f64 ((rd_T47 l1 x5_1).f8))) (ds := []) #[false, false, false, false, false, false, false, false, false, false] (by kernel_rfl) rfl rfl ⟨((HB.out.cell (World.block_lt_of_cell? w _ hw380_0)).trans hw380_0), ((HB.out.cell (World.block_lt_of_cell? w _ hw380_1)).trans hw380_1), ((HB.out.cell (World.block_lt_of_cell? w _ hw380_2)).trans hw380_2), ((HB.out.cell (World.block_lt_of_cell? w _ hw380_3)).trans hw380_3), ((HB.out.cell (World.block_lt_of_cell? w _ hw380_4)).trans hw380_4), ((HB.out.cell (World.block_lt_of_cell? w _ hw380_5)).trans hw380_5), ((HB.out.cell (World.block_lt_of_cell? w _ hw380_6)).trans hw380_6), ((HB.out.cell (World.block_lt_of_cell? w _ hw380_7)).trans hw380_7), ((HB.out.cell (World.block_lt_of_cell? w _ hw380_8)).trans hw380_8), ((HB.out.cell (World.block_lt_of_cell? w _ hw380_9)).trans hw380_9), ((HB.out.cell (World.block_lt_of_cell? w _ hw380_10)).trans hw380_10), ((HB.out.cell (World.block_lt_of_cell? w _ hw380_11)).trans hw380_11), ((HB.out.cell (World.block_lt_of_cell? w _ hw380_12)).trans hw380_12), ((HB.out.cell (World.block_lt_of_cell? w _ hw381_0)).trans hw381_0), ((HB.out.cell (World.block_lt_of_cell? w _ hw381_1)).trans hw381_1), ((HB.out.cell (World.block_lt_of_cell? w _ hw381_2)).trans hw381_2), ((HB.out.cell (World.block_lt_of_cell? w _ hw381_3)).trans hw381_3), ((HB.out.cell (World.block_lt_of_cell? w _ hw381_4)).trans hw381_4), ((HB.out.cell (World.block_lt_of_cell? w _ hw381_5)).trans hw381_5), ((HB.out.cell (World.block_lt_of_cell? w _ hw381_6)).trans hw381_6), ((HB.out.cell (World.block_lt_of_cell? w _ hw381_7)).trans hw381_7), ((HB.out.cell (World.block_lt_of_cell? w _ hw381_8)).trans hw381_8), ((HB.out.cell (World.block_lt_of_cell? w _ hw381_9)).trans hw381_9), ((HB.out.cell (World.block_lt_of_cell? w _ hw381_10)).trans hw381_10), ((HB.out.cell (World.block_lt_of_cell? w _ hw381_11)).trans hw381_11), ((HB.out.cell (World.block_lt_of_cell? w _ hw381_12)).trans hw381_12)⟩ (fun hHeld => ?_); refine with_tabW gatehouseref05_SameDecls.tab6 gatehouseref05_SameDecls.bits6 (fun HT_ HW_ => ?_)
        generalize wr.drew = w11 at HB HR380_9 HR381_9 hx380_0 hx380_1 hx380_10 hx380_11 hx380_12 hx380_2 hx380_3 hx380_4 hx380_5 hx380_6 hx380_7 hx380_8 hx380_9 hx381_0 hx381_1 hx381_10 hx381_11 hx381_12 hx381_2 hx381_3 hx381_4 hx381_5 hx381_6 hx381_7 hx381_8 hx381_9 hHeld ⊢
        refine pure_ (i := 0) (N := some 18) (v := ?_) (a' := ?_) #[true, false, false, false, false, false, false, false, false, false] rfl rfl (any_of HT_.out (by kernel_rfl)) (fun _ _ _ h => h) (Or.inl ⟨by rfl, ?_⟩) ?_ ?_
        rotate_left
        ·intro w'
         go_simp
         with_reducible rfl
        rotate_left
        ·simp only [Act.put, List.setIfInBounds_toArray, List.set_cons_zero, List.set_cons_succ, i64_w, i32_w]
         rfl
        refine pure_ (i := 1) (N := some 19) (v := ?_) (a' := ?_) #[true, true, false, false, false, false, false, false, false, false] rfl rfl (any_of HT_.out (by kernel_rfl)) (fun _ _ _ h => h) (Or.inl ⟨by rfl, ?_⟩) ?_ ?_
        rotate_left
        ·intro w'
         go_simp
         with_reducible rfl
        rotate_left
        ·simp only [Act.put, List.setIfInBounds_toArray, List.set_cons_zero, List.set_cons_succ, i64_w, i32_w]
         rfl
        refine pure_ (i := 2) (N := some 20) (v := ?_) (a' := ?_) #[true, true, true, false, false, false, false, false, false, false] rfl rfl (any_of HT_.out (by kernel_rfl)) (fun _ _ _ h => h) (Or.inl ⟨by rfl, ?_⟩) ?_ ?_
        rotate_left
        ·intro w'
         go_simp
         with_reducible rfl
        rotate_left
        ·simp only [Act.put, List.setIfInBounds_toArray, List.set_cons_zero, List.set_cons_succ, i64_w, i32_w]
         rfl
        refine pure_ (i := 4) (N := some 22) (v := ?_) (a' := ?_) #[true, true, true, false, true, false, false, false, false, false] rfl rfl (any_of HT_.out (by kernel_rfl)) (fun _ _ _ h => h) (Or.inl ⟨by rfl, ?_⟩) ?_ ?_
        rotate_left
        ·intro w'
         go_simp
         with_reducible rfl
        rotate_left
        ·simp only [Act.put, List.setIfInBounds_toArray, List.set_cons_zero, List.set_cons_succ, i64_w, i32_w]
         rfl
        refine pure_ (i := 5) (N := some 23) (v := ?_) (a' := ?_) #[true, true, true, false, true, true, false, false, false, false] rfl rfl (any_of HT_.out (by kernel_rfl)) (fun _ _ _ h => h) (Or.inl ⟨by rfl, ?_⟩) ?_ ?_
        rotate_left
        ·intro w'
         go_simp
         with_reducible rfl
        rotate_left
        ·simp only [Act.put, List.setIfInBounds_toArray, List.set_cons_zero, List.set_cons_succ, i64_w, i32_w]
         rfl
        refine pure_ (i := 6) (N := some 24) (v := ?_) (a' := ?_) #[true, true, true, false, true, true, true, false, false, false] rfl rfl (any_of HT_.out (by kernel_rfl)) (fun _ _ _ h => h) (Or.inl ⟨by rfl, ?_⟩) ?_ ?_
        rotate_left
        ·intro w'
         go_simp
         with_reducible rfl
        rotate_left
        ·simp only [Act.put, List.setIfInBounds_toArray, List.set_cons_zero, List.set_cons_succ, i64_w, i32_w]
         rfl
        refine take_ (i := 3) (N := some 21) (v := ?_) (a' := ?_) #[true, true, true, true, true, true, true, false, false, false] rfl rfl (take_ofW HT_.out HW_.out (by kernel_rfl)) (fun _ _ _ h => h) (Or.inl ⟨by rfl, ?_⟩) hHeld ?_ ?_
        rotate_left
        ·rintro w' ⟨s0, s1, s2, s3, s4, s5, s6, s7, s8, s9, s10, s11, s12, s13, s14, s15, s16, s17, s18, s19, s20, s21, s22, s23, s24, s25⟩
         go_simp
         with_reducible rfl
        rotate_left
        ·simp only [Act.put, List.setIfInBounds_toArray, List.set_cons_zero, List.set_cons_succ, i64_w, i32_w]
         rfl
        refine take_ (i := 7) (N := some 25) (v := ?_) (a' := ?_) #[true, true, true, true, true, true, true, true, false, false] rfl rfl (take_ofW HT_.out HW_.out (by kernel_rfl)) (fun _ _ _ h => h) (Or.inl ⟨by rfl, ?_⟩) hHeld ?_ ?_
        rotate_left
        ·rintro w' ⟨s0, s1, s2, s3, s4, s5, s6, s7, s8, s9, s10, s11, s12, s13, s14, s15, s16, s17, s18, s19, s20, s21, s22, s23, s24, s25⟩
         go_simp
         with_reducible rfl
        rotate_left
        ·simp only [Act.put, List.setIfInBounds_toArray, List.set_cons_zero, List.set_cons_succ, i64_w, i32_w]
         rfl
        refine one_ (i := 8) (N := some 26) #[true, true, true, true, true, true, true, true, true, false] rfl rfl (one_of HT_.out (by kernel_rfl)) (by decide) (fun K hK => ?_)
        refine goes_ Try.func25 (by kernel_rfl) rfl #[.agg #[.int .i8 ((rd_T47 l0 x5_1).f0), .int .i64 ((rd_T47 l0 x5_1).f1), .int .i64 ((rd_T47 l0 x5_1).f2), .string ((rd_T47 l0 x5_1).f3.f0), .int .i64 ((rd_T47 l0 x5_1).f3.f1), .int .i64 ((rd_T47 l0 x5_1).f3.f2), .string ((rd_T47 l0 x5_1).f4.f0), .int .i64 ((rd_T47 l0 x5_1).f4.f1), .int .i64 ((rd_T47 l0 x5_1).f4.f2), .slice A380_9 ((rd_T47 l0 x5_1).f5).length c380_9, .bool ((rd_T47 l0 x5_1).f6), .int .i8 ((rd_T47 l0 x5_1).f7), .float .f64 ((rd_T47 l0 x5_1).f8)], .agg #[.int .i8 ((rd_T47 l1 x5_1).f0), .int .i64 ((rd_T47 l1 x5_1).f1), .int .i64 ((rd_T47 l1 x5_1).f2), .string ((rd_T47 l1 x5_1).f3.f0), .int .i64 ((rd_T47 l1 x5_1).f3.f1), .int .i64 ((rd_T47 l1 x5_1).f3.f2), .string ((rd_T47 l1 x5_1).f4.f0), .int .i64 ((rd_T47 l1 x5_1).f4.f1), .int .i64 ((rd_T47 l1 x5_1).f4.f2), .slice A381_9 ((rd_T47 l1 x5_1).f5).length c381_9, .bool ((rd_T47 l1 x5_1).f6), .int .i8 ((rd_T47 l1 x5_1).f7), .float .f64 ((rd_T47 l1 x5_1).f8)]] (by rfl) rfl rfl (by (try simp only [List.map_toArray, List.map_cons, List.map_nil]); first | done | rfl | (simp only [List.length_drop, List.length_take]; rfl)) ?_
        with_reducible refine (gatehouseref05_SameDecl.calls k1 ((rd_T47 l0 x5_1).f0) ((rd_T47 l0 x5_1).f1) ((rd_T47 l0 x5_1).f2) ((rd_T47 l0 x5_1).f3.f0) ((rd_T47 l0 x5_1).f3.f1) ((rd_T47 l0 x5_1).f3.f2) ((rd_T47 l0 x5_1).f4.f0) ((rd_T47 l0 x5_1).f4.f1) ((rd_T47 l0 x5_1).f4.f2) _ _ ((rd_T47 l0 x5_1).f5) ((rd_T47 l0 x5_1).f6) ((rd_T47 l0 x5_1).f7) ((rd_T47 l0 x5_1).f8) ((rd_T47 l1 x5_1).f0) ((rd_T47 l1 x5_1).f1) ((rd_T47 l1 x5_1).f2) ((rd_T47 l1 x5_1).f3.f0) ((rd_T47 l1 x5_1).f3.f1) ((rd_T47 l1 x5_1).f3.f2) ((rd_T47 l1 x5_1).f4.f0) ((rd_T47 l1 x5_1).f4.f1) ((rd_T47 l1 x5_1).f4.f2) _ _ ((rd_T47 l1 x5_1).f5) ((rd_T47 l1 x5_1).f6) ((rd_T47 l1 x5_1).f7) ((rd_T47 l1 x5_1).f8) false _ ?side1 ?side2 ?side3 ?side4 A7.out).mono ?_
        (case side1 => repeat (first | exact (Kd.C_below HR380_9.out HB.out) | (with_reducible refine Kd.C_alloc ?_ _) | (with_reducible refine Kd.C_drewN ?_ _) | (with_reducible refine Kd.C_drew ?_)))
        (case side2 => exact HC380_9.out)
        (case side3 => repeat (first | exact (Kd.C_below HR381_9.out HB.out) | (with_reducible refine Kd.C_alloc ?_ _) | (with_reducible refine Kd.C_drewN ?_ _) | (with_reducible refine Kd.C_drew ?_)))
        (case side4 => exact HC381_9.out)
        rintro e w12 ⟨rfl, hb⟩
        refine ⟨_, rfl, ?_⟩
        have n0_ := Aside0.mk (below_step (by repeat (first | (with_reducible first | exact HB.out | apply below_alloc | apply pw_below_drewN | apply below_drew1) | exact HB.out)) hb)
        clear HB
        have HB := n0_
        clear n0_
        (try clear hb)
        (try clear hb2)
        (try clear hk)
        (try clear hi)
        refine hK.out _ _ ⟨((HB.out.cell (World.block_lt_of_cell? w _ hw380_0)).trans hw380_0), ((HB.out.cell (World.block_lt_of_cell? w _ hw380_1)).trans hw380_1), ((HB.out.cell (World.block_lt_of_cell? w _ hw380_2)).trans hw380_2), ((HB.out.cell (World.block_lt_of_cell? w _ hw380_3)).trans hw380_3), ((HB.out.cell (World.block_lt_of_cell? w _ hw380_4)).trans hw380_4), ((HB.out.cell (World.block_lt_of_cell? w _ hw380_5)).trans hw380_5), ((HB.out.cell (World.block_lt_of_cell? w _ hw380_6)).trans hw380_6), ((HB.out.cell (World.block_lt_of_cell? w _ hw380_7)).trans hw380_7), ((HB.out.cell (World.block_lt_of_cell? w _ hw380_8)).trans hw380_8), ((HB.out.cell (World.block_lt_of_cell? w _ hw380_9)).trans hw380_9), ((HB.out.cell (World.block_lt_of_cell? w _ hw380_10)).trans hw380_10), ((HB.out.cell (World.block_lt_of_cell? w _ hw380_11)).trans hw380_11), ((HB.out.cell (World.block_lt_of_cell? w _ hw380_12)).trans hw380_12), ((HB.out.cell (World.block_lt_of_cell? w _ hw381_0)).trans hw381_0), ((HB.out.cell (World.block_lt_of_cell? w _ hw381_1)).trans hw381_1), ((HB.out.cell (World.block_lt_of_cell? w _ hw381_2)).trans hw381_2), ((HB.out.cell (World.block_lt_of_cell? w _ hw381_3)).trans hw381_3), ((HB.out.cell (World.block_lt_of_cell? w _ hw381_4)).trans hw381_4), ((HB.out.cell (World.block_lt_of_cell? w _ hw381_5)).trans hw381_5), ((HB.out.cell (World.block_lt_of_cell? w _ hw381_6)).trans hw381_6), ((HB.out.cell (World.block_lt_of_cell? w _ hw381_7)).trans hw381_7), ((HB.out.cell (World.block_lt_of_cell? w _ hw381_8)).trans hw381_8), ((HB.out.cell (World.block_lt_of_cell? w _ hw381_9)).trans hw381_9), ((HB.out.cell (World.block_lt_of_cell? w _ hw381_10)).trans hw381_10), ((HB.out.cell (World.block_lt_of_cell? w _ hw381_11)).trans hw381_11), ((HB.out.cell (World.block_lt_of_cell? w _ hw381_12)).trans hw381_12)⟩ (fun hHeld => ?_)
        clear hK K
        refine norm_ (a' := ?_) ?_ ?_
        rotate_left
        ·show Act.put _ (some 26) _ = _
         simp only [Act.put, List.setIfInBounds_toArray, List.set_cons_zero, List.set_cons_succ, i64_w, i32_w]
         rfl
        refine pure_ (i := 9) (N := some 6) (v := ?_) (a' := ?_) #[true, true, true, true, true, true, true, true, true, true] rfl rfl (any_of HT_.out (by kernel_rfl)) (fun _ _ _ h => h) (Or.inl ⟨by rfl, ?_⟩) ?_ ?_
        rotate_left
        ·intro w'
         go_simp
         with_reducible rfl
        rotate_left
        ·simp only [Act.put, List.setIfInBounds_toArray, List.set_cons_zero, List.set_cons_succ, i64_w, i32_w]
         rfl
        refine done_ (done_of HT_.out (by kernel_rfl)) ?_
        try go_wp2
        go_ret
        exact ⟨by first | rfl | (simp [errW_none, errW_some] <;> rfl) | (simp [*, errW_none, errW_some] <;> rfl), by repeat (first | (with_reducible first | exact HB.out | apply below_alloc | apply pw_below_drewN | apply below_drew1) | exact HB.out)⟩
      ·rw [if_neg c6] at H
       exact absurd H (by simp)
     ·rw [if_neg c5] at H
      exact absurd H (by simp)
    ·rw [if_neg c4] at H
     have c4b0 : decide (x5_1 < (l0.length : Int)) = false := decide_eq_false c4
     clear c4
     obtain rfl := Option.some.inj H
     go_wp2
     go_ret
     exact ⟨by first | rfl | (simp [errW_none, errW_some] <;> rfl) | (simp [*, errW_none, errW_some] <;> rfl), by repeat (first | (with_reducible first | exact HB.out | apply below_alloc | apply pw_below_drewN | apply below_drew1) | exact HB.out)⟩
 ·rw [if_neg c3] at H
  have c3b0 : ((l0.length : Int) == (l1.length : Int)) = false := beq_eq_false_iff_ne.mpr c3
  have c3b1 : ((l0.length : Int) != (l1.length : Int)) = true := bne_iff_ne.mpr c3
  have c3b2 : (l0.length == l1.length) = false := by first | simpa using c3 | (simp at c3 ⊢; omega)
  obtain rfl := Option.some.inj H
  go_enter Try.func9, Try.ntmps9
  go_wp2
  go_ret
  exact ⟨by first | rfl | (simp [errW_none, errW_some] <;> rfl) | (simp [*, errW_none, errW_some] <;> rfl), by repeat (first | (with_reducible first | exact HB.out | apply below_alloc | apply pw_below_drewN | apply below_drew1) | exact HB.out)⟩
end Go.Proofs.Ytacggjhgdkkclaa.PG
