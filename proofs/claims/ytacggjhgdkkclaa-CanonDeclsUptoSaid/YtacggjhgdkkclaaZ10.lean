/- Of this session's texts, what the row uses: PGx11. -/
import Derived.Test.YtacggjhgdkkclaaZ2
namespace Go.Proofs.Ytacggjhgdkkclaa.PG
open Go.Proofs.YtacggjhgdkkclaaF
theorem run_store_float {P : Program} {w : World} {a : Addr} {m : Mode} (k : FloatKind) (f : Nat) : (store a (.float k f) m).run P w = stored P w a (.float k f) m := run_store P w a _ m rfl
attribute [local go_sem high] run_store_float run_feq run_fne run_flt_lt run_flt_le run_flt_gt run_flt_ge
open Go.RowKit Go.Proofs.YtacggjhgdkkclaaW.PrintWords Go.Proofs.YtacggjhgdkkclaaW.PrintLast Go.Proofs.YtacggjhgdkkclaaW.PrintMore
attribute [local go_sem] max2_int min2_int max_two min_two max_three min_three max_four min_four   -- for this text's walks alone
set_option linter.unusedVariables false
set_option linter.unusedSimpArgs false
/-! ### canon_rules: function 18 -/
mutual
def canon_rules.l0 : Nat → List (S47) → List (S51) → Int → Int → Option ((List (S47)))
 | 0, _, _, _, _ => none
 | k + 1, x3, x10, x11, x12 => if x12 < x11 then (if 0 ≤ x12 then (if x12 < (x10.length : Int) then (if (rd_T51 x10 x12).f0 = true then (canon_rules.j1 k x3 x10 x11 x12 ((rd_T51 x10 x12).f0) ((rd_T51 x10 x12).f1) ((rd_T51 x10 x12).f2) ((rd_T51 x10 x12).f3) ((rd_T51 x10 x12).f4) ((rd_T51 x10 x12).f5) 11 0 0 ((rd_T51 x10 x12).f1) 0 0 ((rd_T51 x10 x12).f2) 0 0 ((((rd_T51 x10 x12).f3).length : Int) == 0) ((rd_T51 x10 x12).f4) (0 : Nat)) else (canon_rules.j1 k x3 x10 x11 x12 ((rd_T51 x10 x12).f0) ((rd_T51 x10 x12).f1) ((rd_T51 x10 x12).f2) ((rd_T51 x10 x12).f3) ((rd_T51 x10 x12).f4) ((rd_T51 x10 x12).f5) 10 0 0 ((rd_T51 x10 x12).f1) 0 0 ((rd_T51 x10 x12).f2) 0 0 ((((rd_T51 x10 x12).f3).length : Int) == 0) ((rd_T51 x10 x12).f4) (0 : Nat))) else (none)) else (none)) else (some x3)
def canon_rules.j1 : Nat → List (S47) → List (S51) → Int → Int → Bool → ByteArray → ByteArray → List ByteArray → Int → Nat → Int → Int → Int → ByteArray → Int → Int → ByteArray → Int → Int → Bool → Int → Nat → Option ((List (S47)))
 | 0, _, _, _, _, _, _, _, _, _, _, _, _, _, _, _, _, _, _, _, _, _, _ => none
 | k + 1, x3, x10, x11, x12, x336000, x336001, x336002, x336003, x336004, x336005, x337000, x337001, x337002, x337003, x337004, x337005, x337006, x337007, x337008, x337010, x337011, x337012 => if x336004 = 0 then (canon_rules.j2 k x3 x10 x11 x12 x336000 x336001 x336002 x336003 x336004 x336005 x337000 x337001 x337002 x337003 x337004 x337005 x337006 x337007 x337008 x337010 x337011 x337012) else (canon_rules.j2 k x3 x10 x11 x12 x336000 x336001 x336002 x336003 x336004 x336005 x337000 x337001 x337002 x337003 x337004 x337005 x337006 x337007 x337008 x337010 x337011 x336005)
def canon_rules.j2 : Nat → List (S47) → List (S51) → Int → Int → Bool → ByteArray → ByteArray → List ByteArray → Int → Nat → Int → Int → Int → ByteArray → Int → Int → ByteArray → Int → Int → Bool → Int → Nat → Option ((List (S47)))
 | 0, _, _, _, _, _, _, _, _, _, _, _, _, _, _, _, _, _, _, _, _, _, _ => none
 | k + 1, x3, x10, x11, x12, x336000, x336001, x336002, x336003, x336004, x336005, x337000, x337001, x337002, x337003, x337004, x337005, x337006, x337007, x337008, x337010, x337011, x337012 => canon_rules.l1 k x3 x10 x11 x12 x336003 (x336003.length : Int) 0 x337000 x337001 x337002 x337003 x337004 x337005 x337006 x337007 x337008 ([] : List (S44)) x337010 x337011 x337012
def canon_rules.l1 : Nat → List (S47) → List (S51) → Int → Int → List ByteArray → Int → Int → Int → Int → Int → ByteArray → Int → Int → ByteArray → Int → Int → List (S44) → Bool → Int → Nat → Option ((List (S47)))
 | 0, _, _, _, _, _, _, _, _, _, _, _, _, _, _, _, _, _, _, _, _ => none
 | k + 1, x3, x10, x11, x12, x39, x40, x41, x337000, x337001, x337002, x337003, x337004, x337005, x337006, x337007, x337008, x337009, x337010, x337011, x337012 => if x41 < x40 then (if 0 ≤ x41 then (if x41 < (x39.length : Int) then (if x337009.length < 4398046511104 then (canon_rules.l1 k x3 x10 x11 x12 x39 x40 (wrap64 (x41 + 1)) x337000 x337001 x337002 x337003 x337004 x337005 x337006 x337007 x337008 (x337009 ++ [(⟨rdOf ByteArray.empty x39 x41, 0, 0⟩ : S44)]) x337010 x337011 x337012) else (none)) else (none)) else (none)) else (if x3.length < 1099511627776 then (canon_rules.l0 k (x3 ++ [(⟨x337000, x337001, x337002, (⟨x337003, x337004, x337005⟩ : S44), (⟨x337006, x337007, x337008⟩ : S44), x337009, x337010, x337011, x337012⟩ : S47)]) x10 x11 (wrap64 (x12 + 1))) else (none))
end
def canon_rules.f (k : Nat) (l0_0 : List ByteArray) (l0_1 : List (S42)) (l0_2 : List ByteArray) (l0_3 : List ByteArray) (l0_4 : List ByteArray) (l0_5 : List (S59)) (l0_6 : List (S59)) (l0_7 : List (S59)) (l0_8 : List (S59)) (l0_9 : List (S51)) (l0_10 : List (S53)) : Option ((List (S47))) := canon_rules.l0 k ([] : List (S47)) l0_9 (l0_9.length : Int) 0
theorem canon_rules.mono_l : ∀ k, (∀ y0 y1 y2 y3, LeO (canon_rules.l0 k y0 y1 y2 y3) (canon_rules.l0 (k + 1) y0 y1 y2 y3)) ∧ (∀ y0 y1 y2 y3 y4 y5 y6 y7 y8 y9 y10 y11 y12 y13 y14 y15 y16 y17 y18 y19 y20 y21, LeO (canon_rules.j1 k y0 y1 y2 y3 y4 y5 y6 y7 y8 y9 y10 y11 y12 y13 y14 y15 y16 y17 y18 y19 y20 y21) (canon_rules.j1 (k + 1) y0 y1 y2 y3 y4 y5 y6 y7 y8 y9 y10 y11 y12 y13 y14 y15 y16 y17 y18 y19 y20 y21)) ∧ (∀ y0 y1 y2 y3 y4 y5 y6 y7 y8 y9 y10 y11 y12 y13 y14 y15 y16 y17 y18 y19 y20 y21, LeO (canon_rules.j2 k y0 y1 y2 y3 y4 y5 y6 y7 y8 y9 y10 y11 y12 y13 y14 y15 y16 y17 y18 y19 y20 y21) (canon_rules.j2 (k + 1) y0 y1 y2 y3 y4 y5 y6 y7 y8 y9 y10 y11 y12 y13 y14 y15 y16 y17 y18 y19 y20 y21)) ∧ (∀ y0 y1 y2 y3 y4 y5 y6 y7 y8 y9 y10 y11 y12 y13 y14 y15 y16 y17 y18 y19, LeO (canon_rules.l1 k y0 y1 y2 y3 y4 y5 y6 y7 y8 y9 y10 y11 y12 y13 y14 y15 y16 y17 y18 y19) (canon_rules.l1 (k + 1) y0 y1 y2 y3 y4 y5 y6 y7 y8 y9 y10 y11 y12 y13 y14 y15 y16 y17 y18 y19))
 | 0 => ⟨fun _ _ _ _ r h => by simp [canon_rules.l0] at h, fun _ _ _ _ _ _ _ _ _ _ _ _ _ _ _ _ _ _ _ _ _ _ r h => by simp [canon_rules.j1] at h, fun _ _ _ _ _ _ _ _ _ _ _ _ _ _ _ _ _ _ _ _ _ _ r h => by simp [canon_rules.j2] at h, fun _ _ _ _ _ _ _ _ _ _ _ _ _ _ _ _ _ _ _ _ r h => by simp [canon_rules.l1] at h⟩
 | k + 1 => by
  obtain ⟨ih0, ih1, ih2, ih3⟩ := canon_rules.mono_l k
  refine ⟨?_, ?_, ?_, ?_⟩
  ·intro y0 y1 y2 y3
   unfold canon_rules.l0
   repeat' first
   | (with_reducible exact ih0 _ _ _ _)
   | (with_reducible exact ih1 _ _ _ _ _ _ _ _ _ _ _ _ _ _ _ _ _ _ _ _ _ _)
   | (with_reducible exact ih2 _ _ _ _ _ _ _ _ _ _ _ _ _ _ _ _ _ _ _ _ _ _)
   | (with_reducible exact ih3 _ _ _ _ _ _ _ _ _ _ _ _ _ _ _ _ _ _ _ _)
   | (with_reducible exact LeO.refl _)
   | (with_reducible exact LeO.none _)
   | (with_reducible refine LeO.ite ?_ ?_)
   | (with_reducible refine LeO.bind ?_ (fun _ => ?_))
   | exact ih0 _ _ _ _
   | exact ih1 _ _ _ _ _ _ _ _ _ _ _ _ _ _ _ _ _ _ _ _ _ _
   | exact ih2 _ _ _ _ _ _ _ _ _ _ _ _ _ _ _ _ _ _ _ _ _ _
   | exact ih3 _ _ _ _ _ _ _ _ _ _ _ _ _ _ _ _ _ _ _ _
   | exact LeO.none _
   | refine LeO.ite ?_ ?_
   | refine LeO.bind ?_ (fun _ => ?_)
  ·intro y0 y1 y2 y3 y4 y5 y6 y7 y8 y9 y10 y11 y12 y13 y14 y15 y16 y17 y18 y19 y20 y21
   unfold canon_rules.j1
   repeat' first
   | (with_reducible exact ih0 _ _ _ _)
   | (with_reducible exact ih1 _ _ _ _ _ _ _ _ _ _ _ _ _ _ _ _ _ _ _ _ _ _)
   | (with_reducible exact ih2 _ _ _ _ _ _ _ _ _ _ _ _ _ _ _ _ _ _ _ _ _ _)
   | (with_reducible exact ih3 _ _ _ _ _ _ _ _ _ _ _ _ _ _ _ _ _ _ _ _)
   | (with_reducible exact LeO.refl _)
   | (with_reducible exact LeO.none _)
   | (with_reducible refine LeO.ite ?_ ?_)
   | (with_reducible refine LeO.bind ?_ (fun _ => ?_))
   | exact ih0 _ _ _ _
   | exact ih1 _ _ _ _ _ _ _ _ _ _ _ _ _ _ _ _ _ _ _ _ _ _
   | exact ih2 _ _ _ _ _ _ _ _ _ _ _ _ _ _ _ _ _ _ _ _ _ _
   | exact ih3 _ _ _ _ _ _ _ _ _ _ _ _ _ _ _ _ _ _ _ _
   | exact LeO.none _
   | refine LeO.ite ?_ ?_
   | refine LeO.bind ?_ (fun _ => ?_)
  ·intro y0 y1 y2 y3 y4 y5 y6 y7 y8 y9 y10 y11 y12 y13 y14 y15 y16 y17 y18 y19 y20 y21
   unfold canon_rules.j2
   repeat' first
   | (with_reducible exact ih0 _ _ _ _)
   | (with_reducible exact ih1 _ _ _ _ _ _ _ _ _ _ _ _ _ _ _ _ _ _ _ _ _ _)
   | (with_reducible exact ih2 _ _ _ _ _ _ _ _ _ _ _ _ _ _ _ _ _ _ _ _ _ _)
   | (with_reducible exact ih3 _ _ _ _ _ _ _ _ _ _ _ _ _ _ _ _ _ _ _ _)
   | (with_reducible exact LeO.refl _)
   | (with_reducible exact LeO.none _)
   | (with_reducible refine LeO.ite ?_ ?_)
   | (with_reducible refine LeO.bind ?_ (fun _ => ?_))
   | exact ih0 _ _ _ _
   | exact ih1 _ _ _ _ _ _ _ _ _ _ _ _ _ _ _ _ _ _ _ _ _ _
   | exact ih2 _ _ _ _ _ _ _ _ _ _ _ _ _ _ _ _ _ _ _ _ _ _
   | exact ih3 _ _ _ _ _ _ _ _ _ _ _ _ _ _ _ _ _ _ _ _
   | exact LeO.none _
   | refine LeO.ite ?_ ?_
   | refine LeO.bind ?_ (fun _ => ?_)
  ·intro y0 y1 y2 y3 y4 y5 y6 y7 y8 y9 y10 y11 y12 y13 y14 y15 y16 y17 y18 y19
   unfold canon_rules.l1
   repeat' first
   | (with_reducible exact ih0 _ _ _ _)
   | (with_reducible exact ih1 _ _ _ _ _ _ _ _ _ _ _ _ _ _ _ _ _ _ _ _ _ _)
   | (with_reducible exact ih2 _ _ _ _ _ _ _ _ _ _ _ _ _ _ _ _ _ _ _ _ _ _)
   | (with_reducible exact ih3 _ _ _ _ _ _ _ _ _ _ _ _ _ _ _ _ _ _ _ _)
   | (with_reducible exact LeO.refl _)
   | (with_reducible exact LeO.none _)
   | (with_reducible refine LeO.ite ?_ ?_)
   | (with_reducible refine LeO.bind ?_ (fun _ => ?_))
   | exact ih0 _ _ _ _
   | exact ih1 _ _ _ _ _ _ _ _ _ _ _ _ _ _ _ _ _ _ _ _ _ _
   | exact ih2 _ _ _ _ _ _ _ _ _ _ _ _ _ _ _ _ _ _ _ _ _ _
   | exact ih3 _ _ _ _ _ _ _ _ _ _ _ _ _ _ _ _ _ _ _ _
   | exact LeO.none _
   | refine LeO.ite ?_ ?_
   | refine LeO.bind ?_ (fun _ => ?_)
theorem canon_rules.mono : ∀ a0 a1 a2 a3 a4 a5 a6 a7 a8 a9 a10 k, LeO (canon_rules.f k a0 a1 a2 a3 a4 a5 a6 a7 a8 a9 a10) (canon_rules.f (k + 1) a0 a1 a2 a3 a4 a5 a6 a7 a8 a9 a10) := by
 intro a0 a1 a2 a3 a4 a5 a6 a7 a8 a9 a10 k
 obtain ⟨ih0, ih1, ih2, ih3⟩ := canon_rules.mono_l k
 unfold canon_rules.f
 repeat' first
   | (with_reducible exact ih0 _ _ _ _)
   | (with_reducible exact ih1 _ _ _ _ _ _ _ _ _ _ _ _ _ _ _ _ _ _ _ _ _ _)
   | (with_reducible exact ih2 _ _ _ _ _ _ _ _ _ _ _ _ _ _ _ _ _ _ _ _ _ _)
   | (with_reducible exact ih3 _ _ _ _ _ _ _ _ _ _ _ _ _ _ _ _ _ _ _ _)
   | (with_reducible exact LeO.refl _)
   | (with_reducible exact LeO.none _)
   | (with_reducible refine LeO.ite ?_ ?_)
   | (with_reducible refine LeO.bind ?_ (fun _ => ?_))
   | exact ih0 _ _ _ _
   | exact ih1 _ _ _ _ _ _ _ _ _ _ _ _ _ _ _ _ _ _ _ _ _ _
   | exact ih2 _ _ _ _ _ _ _ _ _ _ _ _ _ _ _ _ _ _ _ _ _ _
   | exact ih3 _ _ _ _ _ _ _ _ _ _ _ _ _ _ _ _ _ _ _ _
   | exact LeO.none _
   | refine LeO.ite ?_ ?_
   | refine LeO.bind ?_ (fun _ => ?_)
set_option maxHeartbeats 8000000 in
set_option maxRecDepth 100000 in
theorem canon_rules.calls (k : Nat) (A0_0 : Option Addr) (c0_0 : Nat) (l0_0 : List ByteArray) (A0_1 : Option Addr) (c0_1 : Nat) (l0_1 : List (S42)) (A0_2 : Option Addr) (c0_2 : Nat) (l0_2 : List ByteArray) (A0_3 : Option Addr) (c0_3 : Nat) (l0_3 : List ByteArray) (A0_4 : Option Addr) (c0_4 : Nat) (l0_4 : List ByteArray) (A0_5 : Option Addr) (c0_5 : Nat) (l0_5 : List (S59)) (A0_6 : Option Addr) (c0_6 : Nat) (l0_6 : List (S59)) (A0_7 : Option Addr) (c0_7 : Nat) (l0_7 : List (S59)) (A0_8 : Option Addr) (c0_8 : Nat) (l0_8 : List (S59)) (A0_9 : Option Addr) (c0_9 : Nat) (l0_9 : List (S51)) (A0_10 : Option Addr) (c0_10 : Nat) (l0_10 : List (S53)) (r : List (S47)) (w : World) (hr0_0 : Kd.C Kd.string w A0_0 l0_0.length l0_0) (hc0_0 : l0_0.length ≤ c0_0) (hr0_1 : Kd.C k42 w A0_1 l0_1.length l0_1) (hc0_1 : l0_1.length ≤ c0_1) (hr0_2 : Kd.C Kd.string w A0_2 l0_2.length l0_2) (hc0_2 : l0_2.length ≤ c0_2) (hr0_3 : Kd.C Kd.string w A0_3 l0_3.length l0_3) (hc0_3 : l0_3.length ≤ c0_3) (hr0_4 : Kd.C Kd.string w A0_4 l0_4.length l0_4) (hc0_4 : l0_4.length ≤ c0_4) (hr0_5 : Kd.C k59 w A0_5 l0_5.length l0_5) (hc0_5 : l0_5.length ≤ c0_5) (hr0_6 : Kd.C k59 w A0_6 l0_6.length l0_6) (hc0_6 : l0_6.length ≤ c0_6) (hr0_7 : Kd.C k59 w A0_7 l0_7.length l0_7) (hc0_7 : l0_7.length ≤ c0_7) (hr0_8 : Kd.C k59 w A0_8 l0_8.length l0_8) (hc0_8 : l0_8.length ≤ c0_8) (hr0_9 : Kd.C k51 w A0_9 l0_9.length l0_9) (hc0_9 : l0_9.length ≤ c0_9) (hr0_10 : Kd.C k53 w A0_10 l0_10.length l0_10) (hc0_10 : l0_10.length ≤ c0_10) (h : canon_rules.f k l0_0 l0_1 l0_2 l0_3 l0_4 l0_5 l0_6 l0_7 l0_8 l0_9 l0_10 = some r) :
  Calls Try.prog 18 #[.agg #[.slice A0_0 l0_0.length c0_0, .slice A0_1 l0_1.length c0_1, .slice A0_2 l0_2.length c0_2, .slice A0_3 l0_3.length c0_3, .slice A0_4 l0_4.length c0_4, .slice A0_5 l0_5.length c0_5, .slice A0_6 l0_6.length c0_6, .slice A0_7 l0_7.length c0_7, .slice A0_8 l0_8.length c0_8, .slice A0_9 l0_9.length c0_9, .slice A0_10 l0_10.length c0_10]] w fun e w' => ∃ v0_ : Value, e = .returned (v0_) ∧ Kd.S k47 47 w' w.heap.size (fun _ => True) v0_ r ∧ Below w.heap.size w w' := by
 have hu28 := Try.underlying28
 have hu51 := Try.underlying51
 have hu44 := Try.underlying44
 have hu47 := Try.underlying47
 have HR0_0 := Aside0.mk hr0_0
 have HC0_0 := Aside0.mk hc0_0
 clear hr0_0 hc0_0
 have HR0_1 := Aside0.mk hr0_1
 have HC0_1 := Aside0.mk hc0_1
 clear hr0_1 hc0_1
 have HR0_2 := Aside0.mk hr0_2
 have HC0_2 := Aside0.mk hc0_2
 clear hr0_2 hc0_2
 have HR0_3 := Aside0.mk hr0_3
 have HC0_3 := Aside0.mk hc0_3
 clear hr0_3 hc0_3
 have HR0_4 := Aside0.mk hr0_4
 have HC0_4 := Aside0.mk hc0_4
 clear hr0_4 hc0_4
 have HR0_5 := Aside0.mk hr0_5
 have HC0_5 := Aside0.mk hc0_5
 clear hr0_5 hc0_5
 have HR0_6 := Aside0.mk hr0_6
 have HC0_6 := Aside0.mk hc0_6
 clear hr0_6 hc0_6
 have HR0_7 := Aside0.mk hr0_7
 have HC0_7 := Aside0.mk hc0_7
 clear hr0_7 hc0_7
 have HR0_8 := Aside0.mk hr0_8
 have HC0_8 := Aside0.mk hc0_8
 clear hr0_8 hc0_8
 have HR0_9 := Aside0.mk hr0_9
 have HC0_9 := Aside0.mk hc0_9
 clear hr0_9 hc0_9
 have HR0_10 := Aside0.mk hr0_10
 have HC0_10 := Aside0.mk hc0_10
 clear hr0_10 hc0_10
 have HB := Aside0.mk (Below.refl w.heap.size w)
 have H : (canon_rules.l0 k ([] : List (S47)) l0_9 (l0_9.length : Int) 0) = some r := h
 clear h
 have H' := Aside0.mk H
 clear H
 go_enter Try.func18, Try.ntmps18
 go_wp2_with (first | ((with_reducible refine gate_dst (N := 1) rfl ?_); refine box_event ?hg (N := 1) ?hd (cs := #[.slice A0_0 l0_0.length c0_0, .slice A0_1 l0_1.length c0_1, .slice A0_2 l0_2.length c0_2, .slice A0_3 l0_3.length c0_3, .slice A0_4 l0_4.length c0_4, .slice A0_5 l0_5.length c0_5, .slice A0_6 l0_6.length c0_6, .slice A0_7 l0_7.length c0_7, .slice A0_8 l0_8.length c0_8, .slice A0_9 l0_9.length c0_9, .slice A0_10 l0_10.length c0_10]) (t := 28) ?hr ?_; (case hd => rfl); (case hg => rfl); (case hr => first | (go_simp; done) | (go_simp; rfl)); intro gb333 hg w2 hbox hb; have n0_ := Aside0.mk (below_step (by repeat (first | (with_reducible first | exact HB.out | apply below_alloc | apply pw_below_drewN | apply below_drew1) | exact HB.out)) hb); have n1_ := Aside0.mk (hbox); have n2_ := Aside0.mk ((by rw [hg]; exact (below_size (by repeat (first | (with_reducible first | exact HB.out | apply below_alloc | apply pw_below_drewN | apply below_drew1) | exact HB.out))) : w.heap.size ≤ gb333)); have n3_ := Aside0.mk ((by rw [hg]; exact (below_size (by repeat (first | (with_reducible first | exact HB.out | apply below_alloc | apply pw_below_drewN | apply below_drew1) | exact HB.out))) : w.heap.size ≤ gb333)); clear HB; have HB := n0_; have BK333 := n1_; have GW333 := n2_; have GE333 := n3_; clear n0_ n1_ n2_ n3_; clear hb hbox hg; have hcz3_0 : w2.cell? ⟨gb333, 0, none⟩ = some (.slice A0_0 l0_0.length c0_0) := (blk_cell BK333.out 0).trans rfl; have hcz3_1 : w2.cell? ⟨gb333, 1, none⟩ = some (.slice A0_1 l0_1.length c0_1) := (blk_cell BK333.out 1).trans rfl; have hcz3_2 : w2.cell? ⟨gb333, 2, none⟩ = some (.slice A0_2 l0_2.length c0_2) := (blk_cell BK333.out 2).trans rfl; have hcz3_3 : w2.cell? ⟨gb333, 3, none⟩ = some (.slice A0_3 l0_3.length c0_3) := (blk_cell BK333.out 3).trans rfl; have hcz3_4 : w2.cell? ⟨gb333, 4, none⟩ = some (.slice A0_4 l0_4.length c0_4) := (blk_cell BK333.out 4).trans rfl; have hcz3_5 : w2.cell? ⟨gb333, 5, none⟩ = some (.slice A0_5 l0_5.length c0_5) := (blk_cell BK333.out 5).trans rfl; have hcz3_6 : w2.cell? ⟨gb333, 6, none⟩ = some (.slice A0_6 l0_6.length c0_6) := (blk_cell BK333.out 6).trans rfl; have hcz3_7 : w2.cell? ⟨gb333, 7, none⟩ = some (.slice A0_7 l0_7.length c0_7) := (blk_cell BK333.out 7).trans rfl; have hcz3_8 : w2.cell? ⟨gb333, 8, none⟩ = some (.slice A0_8 l0_8.length c0_8) := (blk_cell BK333.out 8).trans rfl; have hcz3_9 : w2.cell? ⟨gb333, 9, none⟩ = some (.slice A0_9 l0_9.length c0_9) := (blk_cell BK333.out 9).trans rfl; have hcz3_10 : w2.cell? ⟨gb333, 10, none⟩ = some (.slice A0_10 l0_10.length c0_10) := (blk_cell BK333.out 10).trans rfl; have hfz3_0 := blk_frozen BK333.out 0; have hfz3_1 := blk_frozen BK333.out 1; have hfz3_2 := blk_frozen BK333.out 2; have hfz3_3 := blk_frozen BK333.out 3; have hfz3_4 := blk_frozen BK333.out 4; have hfz3_5 := blk_frozen BK333.out 5; have hfz3_6 := blk_frozen BK333.out 6; have hfz3_7 := blk_frozen BK333.out 7; have hfz3_8 := blk_frozen BK333.out 8; have hfz3_9 := blk_frozen BK333.out 9; have hfz3_10 := blk_frozen BK333.out 10))
 go_loopg [3, 12] k (fun kq v3 v12 w' => ∃ (x3_1 : List (S47)) (x12_1 : Int), v12 = .int .i64 x12_1 ∧ Aside0 (canon_rules.l0 kq x3_1 l0_9 (l0_9.length : Int) x12_1 = some r) ∧ Aside0 (kq ≤ k) ∧ Aside0 (Kd.S k47 47 w' w.heap.size (fun _ => True) v3 x3_1) ∧ Aside0 (w'.heap[gb333]? = some (.cells #[(.slice A0_0 l0_0.length c0_0), (.slice A0_1 l0_1.length c0_1), (.slice A0_2 l0_2.length c0_2), (.slice A0_3 l0_3.length c0_3), (.slice A0_4 l0_4.length c0_4), (.slice A0_5 l0_5.length c0_5), (.slice A0_6 l0_6.length c0_6), (.slice A0_7 l0_7.length c0_7), (.slice A0_8 l0_8.length c0_8), (.slice A0_9 l0_9.length c0_9), (.slice A0_10 l0_10.length c0_10)] 28 (0, 0))) ∧ Aside0 (Below w.heap.size w w'))
 case atStart => exact ⟨(([] : List (S47))), (0), (by first | rfl | (simp; done) | (simp [*]; done)), H', ⟨Nat.le_refl _⟩, ⟨by first | exact Kd.S_nil _ _ _ _ _ | exact Kd.N_nil _ _ _ _ _ | exact Kd.V_nil _ _ _ _ _ | exact Kd.Q_nil _ _ _ _ _ | exact Kd.R_nil _ _ _ _ _⟩, ⟨by (with_reducible repeat (first | refine blk_drewN ?_ _ | refine blk_drew ?_ | refine blk_alloc ?_ _)); exact BK333.out⟩, ⟨by repeat (first | (with_reducible first | exact HB.out | apply below_alloc | apply pw_below_drewN | apply below_drew1 | refine below_set ?_ GE333.out) | exact HB.out)⟩⟩
 case round =>
  clear H'
  try clear c1
  try clear p2
  try clear hcz3_0
  try clear hcz3_1
  try clear hcz3_10
  try clear hcz3_2
  try clear hcz3_3
  try clear hcz3_4
  try clear hcz3_5
  try clear hcz3_6
  try clear hcz3_7
  try clear hcz3_8
  try clear hcz3_9
  try clear hfz3_0
  try clear hfz3_1
  try clear hfz3_10
  try clear hfz3_2
  try clear hfz3_3
  try clear hfz3_4
  try clear hfz3_5
  try clear hfz3_6
  try clear hfz3_7
  try clear hfz3_8
  try clear hfz3_9
  obtain ⟨x3_1, x12_1, rfl, HA, HK1, HO_3, BK333, HB⟩ := hrel
  cases gk with
  | zero => exact absurd HA.out (by simp [canon_rules.l0])
  | succ k1 =>
   have H := HA.out
   clear HA
   simp only [canon_rules.l0] at H
   by_cases c4 : x12_1 < (l0_9.length : Int)
   ·rw [if_pos c4] at H
    have c4b0 : decide (x12_1 < (l0_9.length : Int)) = true := decide_eq_true c4
    clear c4
    by_cases c5 : 0 ≤ x12_1
    ·rw [if_pos c5] at H
     have c5b0 : decide (0 ≤ x12_1) = true := decide_eq_true c5
     clear c5
     by_cases c6 : x12_1 < (l0_9.length : Int)
     ·rw [if_pos c6] at H
      have c6b0 : decide (x12_1 < (l0_9.length : Int)) = true := decide_eq_true c6
      clear c6
      have HC7 := Aside0.mk H
      clear H
      have p334 : 0 ≤ (x12_1 : Int) := of_decide_eq_true (by first | (with_reducible assumption) | assumption)
      have q334 : x12_1 < (l0_9.length : Int) := of_decide_eq_true (by first | (with_reducible assumption) | assumption)
      obtain ⟨ad334, A334_3, c334_3, e334, hx334_0, hx334_1, hx334_2, hx334_3, hx334_4, hx334_5, hl334_3, hi334_3⟩ := at_T51 HR0_9.out x12_1 p334 q334
      cases e334
      replace hx334_0 := (HB.out.cell (World.block_lt_of_cell? w _ hx334_0)).trans hx334_0
      replace hx334_1 := (HB.out.cell (World.block_lt_of_cell? w _ hx334_1)).trans hx334_1
      replace hx334_2 := (HB.out.cell (World.block_lt_of_cell? w _ hx334_2)).trans hx334_2
      replace hx334_3 := (HB.out.cell (World.block_lt_of_cell? w _ hx334_3)).trans hx334_3
      replace hx334_4 := (HB.out.cell (World.block_lt_of_cell? w _ hx334_4)).trans hx334_4
      replace hx334_5 := (HB.out.cell (World.block_lt_of_cell? w _ hx334_5)).trans hx334_5
      have HR334_3 := Aside0.mk hi334_3
      have HC334_3 := Aside0.mk hl334_3
      clear hi334_3 hl334_3
      replace p334 := eq_true p334
      replace q334 := eq_true q334
      go_upto_if 30 with (first | ((with_reducible refine gate_dst (N := 5) rfl ?_); refine box_event ?hg (N := 5) ?hd (cs := #[.bool false, .string (⟨#[]⟩ : ByteArray), .string (⟨#[]⟩ : ByteArray), .slice none 0 0, .int .i8 0, .float .f64 (0 : Nat)]) (t := 51) ?hr ?_; (case hd => rfl); (case hg => rfl); (case hr => first | (go_simp; done) | (go_simp; rfl)); intro gb335 hg w8 hbox hb; have n0_ := Aside0.mk (Kd.S_below (by (with_reducible repeat (first | apply Kd.S_alloc | apply Kd.S_drewN | apply Kd.S_drew)); exact HO_3.out) hb); have n1_ := Aside0.mk (blk_below (g := gb333) (o := .cells #[.slice A0_0 l0_0.length c0_0, .slice A0_1 l0_1.length c0_1, .slice A0_2 l0_2.length c0_2, .slice A0_3 l0_3.length c0_3, .slice A0_4 l0_4.length c0_4, .slice A0_5 l0_5.length c0_5, .slice A0_6 l0_6.length c0_6, .slice A0_7 l0_7.length c0_7, .slice A0_8 l0_8.length c0_8, .slice (some ad334) l0_9.length c0_9, .slice A0_10 l0_10.length c0_10] 28 (0, 0)) (by (with_reducible repeat (first | refine blk_drewN ?_ _ | refine blk_drew ?_ | refine blk_alloc ?_ _)); exact BK333.out) hb); have n2_ := Aside0.mk (below_step (by repeat (first | (with_reducible first | exact HB.out | apply below_alloc | apply pw_below_drewN | apply below_drew1 | refine below_set ?_ GE333.out) | exact HB.out)) hb); have n3_ := Aside0.mk (hbox); have n4_ := Aside0.mk ((by rw [hg]; exact (below_size (by repeat (first | (with_reducible first | exact HB.out | apply below_alloc | apply pw_below_drewN | apply below_drew1 | refine below_set ?_ GE333.out) | exact HB.out))) : w.heap.size ≤ gb335)); have n5_ := Aside0.mk ((by rw [hg]; exact (below_size (by repeat (first | (with_reducible first | exact HB.out | apply below_alloc | apply pw_below_drewN | apply below_drew1 | refine below_set ?_ GE333.out) | exact HB.out))) : w.heap.size ≤ gb335)); have n6_ := Aside0.mk ((by rw [hg]; exact Nat.ne_of_lt (blk_lt (g := gb333) (o := .cells #[.slice A0_0 l0_0.length c0_0, .slice A0_1 l0_1.length c0_1, .slice A0_2 l0_2.length c0_2, .slice A0_3 l0_3.length c0_3, .slice A0_4 l0_4.length c0_4, .slice A0_5 l0_5.length c0_5, .slice A0_6 l0_6.length c0_6, .slice A0_7 l0_7.length c0_7, .slice A0_8 l0_8.length c0_8, .slice (some ad334) l0_9.length c0_9, .slice A0_10 l0_10.length c0_10] 28 (0, 0)) (by (with_reducible repeat (first | refine blk_drewN ?_ _ | refine blk_drew ?_ | refine blk_alloc ?_ _)); exact BK333.out)) : gb333 ≠ gb335)); have n7_ := Aside0.mk ((by rw [hg]; exact Nat.ne_of_gt (blk_lt (g := gb333) (o := .cells #[.slice A0_0 l0_0.length c0_0, .slice A0_1 l0_1.length c0_1, .slice A0_2 l0_2.length c0_2, .slice A0_3 l0_3.length c0_3, .slice A0_4 l0_4.length c0_4, .slice A0_5 l0_5.length c0_5, .slice A0_6 l0_6.length c0_6, .slice A0_7 l0_7.length c0_7, .slice A0_8 l0_8.length c0_8, .slice (some ad334) l0_9.length c0_9, .slice A0_10 l0_10.length c0_10] 28 (0, 0)) (by (with_reducible repeat (first | refine blk_drewN ?_ _ | refine blk_drew ?_ | refine blk_alloc ?_ _)); exact BK333.out)) : gb335 ≠ gb333)); clear HO_3; clear BK333; clear HB; have HO_3 := n0_; have BK333 := n1_; have HB := n2_; have BK335 := n3_; have GW335 := n4_; have GE335 := n5_; have NB333_335 := n6_; have NB335_333 := n7_; clear n0_ n1_ n2_ n3_ n4_ n5_ n6_ n7_; clear hb hbox hg; have hnb9 := NB335_333.out; have hnc9 := NB333_335.out; have hcz10_0 : w8.cell? ⟨gb335, 0, none⟩ = some (.bool false) := (blk_cell BK335.out 0).trans rfl; have hcz10_1 : w8.cell? ⟨gb335, 1, none⟩ = some (.string (⟨#[]⟩ : ByteArray)) := (blk_cell BK335.out 1).trans rfl; have hcz10_2 : w8.cell? ⟨gb335, 2, none⟩ = some (.string (⟨#[]⟩ : ByteArray)) := (blk_cell BK335.out 2).trans rfl; have hcz10_3 : w8.cell? ⟨gb335, 3, none⟩ = some (.slice none 0 0) := (blk_cell BK335.out 3).trans rfl; have hcz10_4 : w8.cell? ⟨gb335, 4, none⟩ = some (.int .i8 0) := (blk_cell BK335.out 4).trans rfl; have hcz10_5 : w8.cell? ⟨gb335, 5, none⟩ = some (.float .f64 (0 : Nat)) := (blk_cell BK335.out 5).trans rfl; have hfz10_0 := blk_frozen BK335.out 0; have hfz10_1 := blk_frozen BK335.out 1; have hfz10_2 := blk_frozen BK335.out 2; have hfz10_3 := blk_frozen BK335.out 3; have hfz10_4 := blk_frozen BK335.out 4; have hfz10_5 := blk_frozen BK335.out 5) | ((with_reducible refine gate_dst (N := 6) rfl ?_); refine box_event ?hg (N := 6) ?hd (cs := #[.int .i8 0, .int .i64 0, .int .i64 0, .string (⟨#[]⟩ : ByteArray), .int .i64 0, .int .i64 0, .string (⟨#[]⟩ : ByteArray), .int .i64 0, .int .i64 0, .slice none 0 0, .bool false, .int .i8 0, .float .f64 (0 : Nat)]) (t := 47) ?hr ?_; (case hd => rfl); (case hg => rfl); (case hr => first | (go_simp; done) | (go_simp; rfl)); intro gb336 hg w11 hbox hb; have n0_ := Aside0.mk (Kd.S_below (Kd.S_elderB (by (with_reducible repeat (first | apply Kd.S_alloc | apply Kd.S_drewN | apply Kd.S_drew)); exact (Kd.S_mono (Kd.S_far (p := ⟨gb335, 5, none⟩) (Kd.S_far (p := ⟨gb335, 4, none⟩) (Kd.S_far (p := ⟨gb335, 3, none⟩) (Kd.S_far (p := ⟨gb335, 2, none⟩) (Kd.S_far (p := ⟨gb335, 1, none⟩) (Kd.S_far (p := ⟨gb335, 0, none⟩) (Kd.S_types HO_3.out BK335.out (by decide)) (fun _ hk => hk.2) (.bool ((rd_T51 l0_9 x12_1).f0))) (fun _ hk => hk.2) (.string ((rd_T51 l0_9 x12_1).f1))) (fun _ hk => hk.2) (.string ((rd_T51 l0_9 x12_1).f2))) (fun _ hk => hk.2) (.slice A334_3 ((rd_T51 l0_9 x12_1).f3).length c334_3)) (fun _ hk => hk.2) (.int .i8 ((rd_T51 l0_9 x12_1).f4))) (fun _ hk => hk.2) (.float .f64 ((rd_T51 l0_9 x12_1).f5))) (fun _ h_ => h_.1))) gb336 (Nat.le_of_eq hg.symm)) hb); have n1_ := Aside0.mk (blk_below (g := gb333) (o := .cells #[.slice A0_0 l0_0.length c0_0, .slice A0_1 l0_1.length c0_1, .slice A0_2 l0_2.length c0_2, .slice A0_3 l0_3.length c0_3, .slice A0_4 l0_4.length c0_4, .slice A0_5 l0_5.length c0_5, .slice A0_6 l0_6.length c0_6, .slice A0_7 l0_7.length c0_7, .slice A0_8 l0_8.length c0_8, .slice (some ad334) l0_9.length c0_9, .slice A0_10 l0_10.length c0_10] 28 (0, 0)) (by (with_reducible repeat (first | refine blk_drewN ?_ _ | refine blk_drew ?_ | refine blk_alloc ?_ _)); refine blk_far ?_ NB333_335.out _; (with_reducible repeat (first | refine blk_drewN ?_ _ | refine blk_drew ?_ | refine blk_alloc ?_ _)); refine blk_far ?_ NB333_335.out _; (with_reducible repeat (first | refine blk_drewN ?_ _ | refine blk_drew ?_ | refine blk_alloc ?_ _)); refine blk_far ?_ NB333_335.out _; (with_reducible repeat (first | refine blk_drewN ?_ _ | refine blk_drew ?_ | refine blk_alloc ?_ _)); refine blk_far ?_ NB333_335.out _; (with_reducible repeat (first | refine blk_drewN ?_ _ | refine blk_drew ?_ | refine blk_alloc ?_ _)); refine blk_far ?_ NB333_335.out _; (with_reducible repeat (first | refine blk_drewN ?_ _ | refine blk_drew ?_ | refine blk_alloc ?_ _)); refine blk_far ?_ NB333_335.out _; (with_reducible repeat (first | refine blk_drewN ?_ _ | refine blk_drew ?_ | refine blk_alloc ?_ _)); exact BK333.out) hb); have n2_ := Aside0.mk (blk_below (g := gb335) (o := .cells #[.bool ((rd_T51 l0_9 x12_1).f0), .string ((rd_T51 l0_9 x12_1).f1), .string ((rd_T51 l0_9 x12_1).f2), .slice A334_3 ((rd_T51 l0_9 x12_1).f3).length c334_3, .int .i8 ((rd_T51 l0_9 x12_1).f4), .float .f64 ((rd_T51 l0_9 x12_1).f5)] 51 (0, 0)) (by (with_reducible repeat (first | refine blk_drewN ?_ _ | refine blk_drew ?_ | refine blk_alloc ?_ _)); refine blk_put (cs := #[.bool ((rd_T51 l0_9 x12_1).f0), .string ((rd_T51 l0_9 x12_1).f1), .string ((rd_T51 l0_9 x12_1).f2), .slice A334_3 ((rd_T51 l0_9 x12_1).f3).length c334_3, .int .i8 ((rd_T51 l0_9 x12_1).f4), .float .f64 (0 : Nat)]) ?_ 5 _ rfl; (with_reducible repeat (first | refine blk_drewN ?_ _ | refine blk_drew ?_ | refine blk_alloc ?_ _)); refine blk_put (cs := #[.bool ((rd_T51 l0_9 x12_1).f0), .string ((rd_T51 l0_9 x12_1).f1), .string ((rd_T51 l0_9 x12_1).f2), .slice A334_3 ((rd_T51 l0_9 x12_1).f3).length c334_3, .int .i8 0, .float .f64 (0 : Nat)]) ?_ 4 _ rfl; (with_reducible repeat (first | refine blk_drewN ?_ _ | refine blk_drew ?_ | refine blk_alloc ?_ _)); refine blk_put (cs := #[.bool ((rd_T51 l0_9 x12_1).f0), .string ((rd_T51 l0_9 x12_1).f1), .string ((rd_T51 l0_9 x12_1).f2), .slice none 0 0, .int .i8 0, .float .f64 (0 : Nat)]) ?_ 3 _ rfl; (with_reducible repeat (first | refine blk_drewN ?_ _ | refine blk_drew ?_ | refine blk_alloc ?_ _)); refine blk_put (cs := #[.bool ((rd_T51 l0_9 x12_1).f0), .string ((rd_T51 l0_9 x12_1).f1), .string (⟨#[]⟩ : ByteArray), .slice none 0 0, .int .i8 0, .float .f64 (0 : Nat)]) ?_ 2 _ rfl; (with_reducible repeat (first | refine blk_drewN ?_ _ | refine blk_drew ?_ | refine blk_alloc ?_ _)); refine blk_put (cs := #[.bool ((rd_T51 l0_9 x12_1).f0), .string (⟨#[]⟩ : ByteArray), .string (⟨#[]⟩ : ByteArray), .slice none 0 0, .int .i8 0, .float .f64 (0 : Nat)]) ?_ 1 _ rfl; (with_reducible repeat (first | refine blk_drewN ?_ _ | refine blk_drew ?_ | refine blk_alloc ?_ _)); refine blk_put (cs := #[.bool false, .string (⟨#[]⟩ : ByteArray), .string (⟨#[]⟩ : ByteArray), .slice none 0 0, .int .i8 0, .float .f64 (0 : Nat)]) ?_ 0 _ rfl; (with_reducible repeat (first | refine blk_drewN ?_ _ | refine blk_drew ?_ | refine blk_alloc ?_ _)); exact BK335.out) hb); have n3_ := Aside0.mk (below_step (by repeat (first | (with_reducible first | exact HB.out | apply below_alloc | apply pw_below_drewN | apply below_drew1 | refine below_set ?_ GE333.out | refine below_set ?_ GE335.out) | exact HB.out)) hb); have n4_ := Aside0.mk (hbox); have n5_ := Aside0.mk ((by rw [hg]; exact (below_size (by repeat (first | (with_reducible first | exact HB.out | apply below_alloc | apply pw_below_drewN | apply below_drew1 | refine below_set ?_ GE333.out | refine below_set ?_ GE335.out) | exact HB.out))) : w.heap.size ≤ gb336)); have n6_ := Aside0.mk ((by rw [hg]; exact (below_size (by repeat (first | (with_reducible first | exact HB.out | apply below_alloc | apply pw_below_drewN | apply below_drew1 | refine below_set ?_ GE333.out | refine below_set ?_ GE335.out) | exact HB.out))) : w.heap.size ≤ gb336)); have n7_ := Aside0.mk ((by rw [hg]; exact Nat.ne_of_lt (blk_lt (g := gb333) (o := .cells #[.slice A0_0 l0_0.length c0_0, .slice A0_1 l0_1.length c0_1, .slice A0_2 l0_2.length c0_2, .slice A0_3 l0_3.length c0_3, .slice A0_4 l0_4.length c0_4, .slice A0_5 l0_5.length c0_5, .slice A0_6 l0_6.length c0_6, .slice A0_7 l0_7.length c0_7, .slice A0_8 l0_8.length c0_8, .slice (some ad334) l0_9.length c0_9, .slice A0_10 l0_10.length c0_10] 28 (0, 0)) (by (with_reducible repeat (first | refine blk_drewN ?_ _ | refine blk_drew ?_ | refine blk_alloc ?_ _)); refine blk_far ?_ NB333_335.out _; (with_reducible repeat (first | refine blk_drewN ?_ _ | refine blk_drew ?_ | refine blk_alloc ?_ _)); refine blk_far ?_ NB333_335.out _; (with_reducible repeat (first | refine blk_drewN ?_ _ | refine blk_drew ?_ | refine blk_alloc ?_ _)); refine blk_far ?_ NB333_335.out _; (with_reducible repeat (first | refine blk_drewN ?_ _ | refine blk_drew ?_ | refine blk_alloc ?_ _)); refine blk_far ?_ NB333_335.out _; (with_reducible repeat (first | refine blk_drewN ?_ _ | refine blk_drew ?_ | refine blk_alloc ?_ _)); refine blk_far ?_ NB333_335.out _; (with_reducible repeat (first | refine blk_drewN ?_ _ | refine blk_drew ?_ | refine blk_alloc ?_ _)); refine blk_far ?_ NB333_335.out _; (with_reducible repeat (first | refine blk_drewN ?_ _ | refine blk_drew ?_ | refine blk_alloc ?_ _)); exact BK333.out)) : gb333 ≠ gb336)); have n8_ := Aside0.mk ((by rw [hg]; exact Nat.ne_of_gt (blk_lt (g := gb333) (o := .cells #[.slice A0_0 l0_0.length c0_0, .slice A0_1 l0_1.length c0_1, .slice A0_2 l0_2.length c0_2, .slice A0_3 l0_3.length c0_3, .slice A0_4 l0_4.length c0_4, .slice A0_5 l0_5.length c0_5, .slice A0_6 l0_6.length c0_6, .slice A0_7 l0_7.length c0_7, .slice A0_8 l0_8.length c0_8, .slice (some ad334) l0_9.length c0_9, .slice A0_10 l0_10.length c0_10] 28 (0, 0)) (by (with_reducible repeat (first | refine blk_drewN ?_ _ | refine blk_drew ?_ | refine blk_alloc ?_ _)); refine blk_far ?_ NB333_335.out _; (with_reducible repeat (first | refine blk_drewN ?_ _ | refine blk_drew ?_ | refine blk_alloc ?_ _)); refine blk_far ?_ NB333_335.out _; (with_reducible repeat (first | refine blk_drewN ?_ _ | refine blk_drew ?_ | refine blk_alloc ?_ _)); refine blk_far ?_ NB333_335.out _; (with_reducible repeat (first | refine blk_drewN ?_ _ | refine blk_drew ?_ | refine blk_alloc ?_ _)); refine blk_far ?_ NB333_335.out _; (with_reducible repeat (first | refine blk_drewN ?_ _ | refine blk_drew ?_ | refine blk_alloc ?_ _)); refine blk_far ?_ NB333_335.out _; (with_reducible repeat (first | refine blk_drewN ?_ _ | refine blk_drew ?_ | refine blk_alloc ?_ _)); refine blk_far ?_ NB333_335.out _; (with_reducible repeat (first | refine blk_drewN ?_ _ | refine blk_drew ?_ | refine blk_alloc ?_ _)); exact BK333.out)) : gb336 ≠ gb333)); have n9_ := Aside0.mk ((by rw [hg]; exact Nat.ne_of_lt (blk_lt (g := gb335) (o := .cells #[.bool ((rd_T51 l0_9 x12_1).f0), .string ((rd_T51 l0_9 x12_1).f1), .string ((rd_T51 l0_9 x12_1).f2), .slice A334_3 ((rd_T51 l0_9 x12_1).f3).length c334_3, .int .i8 ((rd_T51 l0_9 x12_1).f4), .float .f64 ((rd_T51 l0_9 x12_1).f5)] 51 (0, 0)) (by (with_reducible repeat (first | refine blk_drewN ?_ _ | refine blk_drew ?_ | refine blk_alloc ?_ _)); refine blk_put (cs := #[.bool ((rd_T51 l0_9 x12_1).f0), .string ((rd_T51 l0_9 x12_1).f1), .string ((rd_T51 l0_9 x12_1).f2), .slice A334_3 ((rd_T51 l0_9 x12_1).f3).length c334_3, .int .i8 ((rd_T51 l0_9 x12_1).f4), .float .f64 (0 : Nat)]) ?_ 5 _ rfl; (with_reducible repeat (first | refine blk_drewN ?_ _ | refine blk_drew ?_ | refine blk_alloc ?_ _)); refine blk_put (cs := #[.bool ((rd_T51 l0_9 x12_1).f0), .string ((rd_T51 l0_9 x12_1).f1), .string ((rd_T51 l0_9 x12_1).f2), .slice A334_3 ((rd_T51 l0_9 x12_1).f3).length c334_3, .int .i8 0, .float .f64 (0 : Nat)]) ?_ 4 _ rfl; (with_reducible repeat (first | refine blk_drewN ?_ _ | refine blk_drew ?_ | refine blk_alloc ?_ _)); refine blk_put (cs := #[.bool ((rd_T51 l0_9 x12_1).f0), .string ((rd_T51 l0_9 x12_1).f1), .string ((rd_T51 l0_9 x12_1).f2), .slice none 0 0, .int .i8 0, .float .f64 (0 : Nat)]) ?_ 3 _ rfl; (with_reducible repeat (first | refine blk_drewN ?_ _ | refine blk_drew ?_ | refine blk_alloc ?_ _)); refine blk_put (cs := #[.bool ((rd_T51 l0_9 x12_1).f0), .string ((rd_T51 l0_9 x12_1).f1), .string (⟨#[]⟩ : ByteArray), .slice none 0 0, .int .i8 0, .float .f64 (0 : Nat)]) ?_ 2 _ rfl; (with_reducible repeat (first | refine blk_drewN ?_ _ | refine blk_drew ?_ | refine blk_alloc ?_ _)); refine blk_put (cs := #[.bool ((rd_T51 l0_9 x12_1).f0), .string (⟨#[]⟩ : ByteArray), .string (⟨#[]⟩ : ByteArray), .slice none 0 0, .int .i8 0, .float .f64 (0 : Nat)]) ?_ 1 _ rfl; (with_reducible repeat (first | refine blk_drewN ?_ _ | refine blk_drew ?_ | refine blk_alloc ?_ _)); refine blk_put (cs := #[.bool false, .string (⟨#[]⟩ : ByteArray), .string (⟨#[]⟩ : ByteArray), .slice none 0 0, .int .i8 0, .float .f64 (0 : Nat)]) ?_ 0 _ rfl; (with_reducible repeat (first | refine blk_drewN ?_ _ | refine blk_drew ?_ | refine blk_alloc ?_ _)); exact BK335.out)) : gb335 ≠ gb336)); have n10_ := Aside0.mk ((by rw [hg]; exact Nat.ne_of_gt (blk_lt (g := gb335) (o := .cells #[.bool ((rd_T51 l0_9 x12_1).f0), .string ((rd_T51 l0_9 x12_1).f1), .string ((rd_T51 l0_9 x12_1).f2), .slice A334_3 ((rd_T51 l0_9 x12_1).f3).length c334_3, .int .i8 ((rd_T51 l0_9 x12_1).f4), .float .f64 ((rd_T51 l0_9 x12_1).f5)] 51 (0, 0)) (by (with_reducible repeat (first | refine blk_drewN ?_ _ | refine blk_drew ?_ | refine blk_alloc ?_ _)); refine blk_put (cs := #[.bool ((rd_T51 l0_9 x12_1).f0), .string ((rd_T51 l0_9 x12_1).f1), .string ((rd_T51 l0_9 x12_1).f2), .slice A334_3 ((rd_T51 l0_9 x12_1).f3).length c334_3, .int .i8 ((rd_T51 l0_9 x12_1).f4), .float .f64 (0 : Nat)]) ?_ 5 _ rfl; (with_reducible repeat (first | refine blk_drewN ?_ _ | refine blk_drew ?_ | refine blk_alloc ?_ _)); refine blk_put (cs := #[.bool ((rd_T51 l0_9 x12_1).f0), .string ((rd_T51 l0_9 x12_1).f1), .string ((rd_T51 l0_9 x12_1).f2), .slice A334_3 ((rd_T51 l0_9 x12_1).f3).length c334_3, .int .i8 0, .float .f64 (0 : Nat)]) ?_ 4 _ rfl; (with_reducible repeat (first | refine blk_drewN ?_ _ | refine blk_drew ?_ | refine blk_alloc ?_ _)); refine blk_put (cs := #[.bool ((rd_T51 l0_9 x12_1).f0), .string ((rd_T51 l0_9 x12_1).f1), .string ((rd_T51 l0_9 x12_1).f2), .slice none 0 0, .int .i8 0, .float .f64 (0 : Nat)]) ?_ 3 _ rfl; (with_reducible repeat (first | refine blk_drewN ?_ _ | refine blk_drew ?_ | refine blk_alloc ?_ _)); refine blk_put (cs := #[.bool ((rd_T51 l0_9 x12_1).f0), .string ((rd_T51 l0_9 x12_1).f1), .string (⟨#[]⟩ : ByteArray), .slice none 0 0, .int .i8 0, .float .f64 (0 : Nat)]) ?_ 2 _ rfl; (with_reducible repeat (first | refine blk_drewN ?_ _ | refine blk_drew ?_ | refine blk_alloc ?_ _)); refine blk_put (cs := #[.bool ((rd_T51 l0_9 x12_1).f0), .string (⟨#[]⟩ : ByteArray), .string (⟨#[]⟩ : ByteArray), .slice none 0 0, .int .i8 0, .float .f64 (0 : Nat)]) ?_ 1 _ rfl; (with_reducible repeat (first | refine blk_drewN ?_ _ | refine blk_drew ?_ | refine blk_alloc ?_ _)); refine blk_put (cs := #[.bool false, .string (⟨#[]⟩ : ByteArray), .string (⟨#[]⟩ : ByteArray), .slice none 0 0, .int .i8 0, .float .f64 (0 : Nat)]) ?_ 0 _ rfl; (with_reducible repeat (first | refine blk_drewN ?_ _ | refine blk_drew ?_ | refine blk_alloc ?_ _)); exact BK335.out)) : gb336 ≠ gb335)); clear HO_3; clear BK333; clear BK335; clear HB; have HO_3 := n0_; have BK333 := n1_; have BK335 := n2_; have HB := n3_; have BK336 := n4_; have GW336 := n5_; have GE336 := n6_; have NB333_336 := n7_; have NB336_333 := n8_; have NB335_336 := n9_; have NB336_335 := n10_; clear n0_ n1_ n2_ n3_ n4_ n5_ n6_ n7_ n8_ n9_ n10_; clear hb hbox hg; have hnb12 := NB336_333.out; have hnc12 := NB333_336.out; have hnb13 := NB336_335.out; have hnc13 := NB335_336.out; have hcz14_0 : w11.cell? ⟨gb336, 0, none⟩ = some (.int .i8 0) := (blk_cell BK336.out 0).trans rfl; have hcz14_1 : w11.cell? ⟨gb336, 1, none⟩ = some (.int .i64 0) := (blk_cell BK336.out 1).trans rfl; have hcz14_2 : w11.cell? ⟨gb336, 2, none⟩ = some (.int .i64 0) := (blk_cell BK336.out 2).trans rfl; have hcz14_3 : w11.cell? ⟨gb336, 3, none⟩ = some (.string (⟨#[]⟩ : ByteArray)) := (blk_cell BK336.out 3).trans rfl; have hcz14_4 : w11.cell? ⟨gb336, 4, none⟩ = some (.int .i64 0) := (blk_cell BK336.out 4).trans rfl; have hcz14_5 : w11.cell? ⟨gb336, 5, none⟩ = some (.int .i64 0) := (blk_cell BK336.out 5).trans rfl; have hcz14_6 : w11.cell? ⟨gb336, 6, none⟩ = some (.string (⟨#[]⟩ : ByteArray)) := (blk_cell BK336.out 6).trans rfl; have hcz14_7 : w11.cell? ⟨gb336, 7, none⟩ = some (.int .i64 0) := (blk_cell BK336.out 7).trans rfl; have hcz14_8 : w11.cell? ⟨gb336, 8, none⟩ = some (.int .i64 0) := (blk_cell BK336.out 8).trans rfl; have hcz14_9 : w11.cell? ⟨gb336, 9, none⟩ = some (.slice none 0 0) := (blk_cell BK336.out 9).trans rfl; have hcz14_10 : w11.cell? ⟨gb336, 10, none⟩ = some (.bool false) := (blk_cell BK336.out 10).trans rfl; have hcz14_11 : w11.cell? ⟨gb336, 11, none⟩ = some (.int .i8 0) := (blk_cell BK336.out 11).trans rfl; have hcz14_12 : w11.cell? ⟨gb336, 12, none⟩ = some (.float .f64 (0 : Nat)) := (blk_cell BK336.out 12).trans rfl; have hfz14_0 := blk_frozen BK336.out 0; have hfz14_1 := blk_frozen BK336.out 1; have hfz14_2 := blk_frozen BK336.out 2; have hfz14_3 := blk_frozen BK336.out 3; have hfz14_4 := blk_frozen BK336.out 4; have hfz14_5 := blk_frozen BK336.out 5; have hfz14_6 := blk_frozen BK336.out 6; have hfz14_7 := blk_frozen BK336.out 7; have hfz14_8 := blk_frozen BK336.out 8; have hfz14_9 := blk_frozen BK336.out 9; have hfz14_10 := blk_frozen BK336.out 10; have hfz14_11 := blk_frozen BK336.out 11; have hfz14_12 := blk_frozen BK336.out 12; have hcz15_0 : w11.cell? ⟨gb335, 0, none⟩ = some (.bool ((rd_T51 l0_9 x12_1).f0)) := (blk_cell BK335.out 0).trans rfl; have hcz15_1 : w11.cell? ⟨gb335, 1, none⟩ = some (.string ((rd_T51 l0_9 x12_1).f1)) := (blk_cell BK335.out 1).trans rfl; have hcz15_2 : w11.cell? ⟨gb335, 2, none⟩ = some (.string ((rd_T51 l0_9 x12_1).f2)) := (blk_cell BK335.out 2).trans rfl; have hcz15_3 : w11.cell? ⟨gb335, 3, none⟩ = some (.slice A334_3 ((rd_T51 l0_9 x12_1).f3).length c334_3) := (blk_cell BK335.out 3).trans rfl; have hcz15_4 : w11.cell? ⟨gb335, 4, none⟩ = some (.int .i8 ((rd_T51 l0_9 x12_1).f4)) := (blk_cell BK335.out 4).trans rfl; have hcz15_5 : w11.cell? ⟨gb335, 5, none⟩ = some (.float .f64 ((rd_T51 l0_9 x12_1).f5)) := (blk_cell BK335.out 5).trans rfl; have hfz15_0 := blk_frozen BK335.out 0; have hfz15_1 := blk_frozen BK335.out 1; have hfz15_2 := blk_frozen BK335.out 2; have hfz15_3 := blk_frozen BK335.out 3; have hfz15_4 := blk_frozen BK335.out 4; have hfz15_5 := blk_frozen BK335.out 5))
      (try simp only [Act.put, List.setIfInBounds_toArray, List.set_cons_zero, List.set_cons_succ])
      go_cut [] (fun wc => ∃ (kq : Nat) (x337000_6 : Int), Aside0 (canon_rules.j1 kq x3_1 l0_9 (l0_9.length : Int) x12_1 ((rd_T51 l0_9 x12_1).f0) ((rd_T51 l0_9 x12_1).f1) ((rd_T51 l0_9 x12_1).f2) ((rd_T51 l0_9 x12_1).f3) ((rd_T51 l0_9 x12_1).f4) ((rd_T51 l0_9 x12_1).f5) x337000_6 0 0 ((rd_T51 l0_9 x12_1).f1) 0 0 ((rd_T51 l0_9 x12_1).f2) 0 0 ((((rd_T51 l0_9 x12_1).f3).length : Int) == 0) ((rd_T51 l0_9 x12_1).f4) (0 : Nat) = some r) ∧ Aside0 (kq ≤ k1) ∧ Aside0 (Kd.S k47 47 wc w.heap.size (fun k_ => k_ ≠ gb336) u3 x3_1) ∧ Aside0 (wc.heap[gb333]? = some (.cells #[(.slice A0_0 l0_0.length c0_0), (.slice A0_1 l0_1.length c0_1), (.slice A0_2 l0_2.length c0_2), (.slice A0_3 l0_3.length c0_3), (.slice A0_4 l0_4.length c0_4), (.slice A0_5 l0_5.length c0_5), (.slice A0_6 l0_6.length c0_6), (.slice A0_7 l0_7.length c0_7), (.slice A0_8 l0_8.length c0_8), (.slice (some ad334) l0_9.length c0_9), (.slice A0_10 l0_10.length c0_10)] 28 (0, 0))) ∧ Aside0 (wc.heap[gb335]? = some (.cells #[.bool ((rd_T51 l0_9 x12_1).f0), .string ((rd_T51 l0_9 x12_1).f1), .string ((rd_T51 l0_9 x12_1).f2), (.slice A334_3 ((rd_T51 l0_9 x12_1).f3).length c334_3), .int .i8 ((rd_T51 l0_9 x12_1).f4), .float .f64 ((rd_T51 l0_9 x12_1).f5)] 51 (0, 0))) ∧ Aside0 (wc.heap[gb336]? = some (.cells #[.int .i8 x337000_6, .int .i64 0, .int .i64 0, .string ((rd_T51 l0_9 x12_1).f1), .int .i64 0, .int .i64 0, .string ((rd_T51 l0_9 x12_1).f2), .int .i64 0, .int .i64 0, (.slice none 0 0), .bool ((((rd_T51 l0_9 x12_1).f3).length : Int) == 0), .int .i8 ((rd_T51 l0_9 x12_1).f4), .float .f64 (0 : Nat)] 47 (0, 0))) ∧ Aside0 (Below w.heap.size w wc))
      case first =>
       have H := HC7.out
       clear HC7
       obtain ⟨bq16, hbq16⟩ : ∃ b_ : Bool, b_ = ((rd_T51 l0_9 x12_1).f0) := ⟨_, rfl⟩
       replace H : (if bq16 = true then (canon_rules.j1 k1 x3_1 l0_9 (l0_9.length : Int) x12_1 bq16 ((rd_T51 l0_9 x12_1).f1) ((rd_T51 l0_9 x12_1).f2) ((rd_T51 l0_9 x12_1).f3) ((rd_T51 l0_9 x12_1).f4) ((rd_T51 l0_9 x12_1).f5) 11 0 0 ((rd_T51 l0_9 x12_1).f1) 0 0 ((rd_T51 l0_9 x12_1).f2) 0 0 ((((rd_T51 l0_9 x12_1).f3).length : Int) == 0) ((rd_T51 l0_9 x12_1).f4) (0 : Nat)) else (canon_rules.j1 k1 x3_1 l0_9 (l0_9.length : Int) x12_1 bq16 ((rd_T51 l0_9 x12_1).f1) ((rd_T51 l0_9 x12_1).f2) ((rd_T51 l0_9 x12_1).f3) ((rd_T51 l0_9 x12_1).f4) ((rd_T51 l0_9 x12_1).f5) 10 0 0 ((rd_T51 l0_9 x12_1).f1) 0 0 ((rd_T51 l0_9 x12_1).f2) 0 0 ((((rd_T51 l0_9 x12_1).f3).length : Int) == 0) ((rd_T51 l0_9 x12_1).f4) (0 : Nat))) = some r := by rw [← hbq16] at H; exact H
       have Nbq16 := Aside0.mk hbq16
       clear hbq16
       (try rw [← Nbq16.out])
       by_cases c17 : bq16 = true
       ·subst c17
        have H1 : (canon_rules.j1 k1 x3_1 l0_9 (l0_9.length : Int) x12_1 true ((rd_T51 l0_9 x12_1).f1) ((rd_T51 l0_9 x12_1).f2) ((rd_T51 l0_9 x12_1).f3) ((rd_T51 l0_9 x12_1).f4) ((rd_T51 l0_9 x12_1).f5) 11 0 0 ((rd_T51 l0_9 x12_1).f1) 0 0 ((rd_T51 l0_9 x12_1).f2) 0 0 ((((rd_T51 l0_9 x12_1).f3).length : Int) == 0) ((rd_T51 l0_9 x12_1).f4) (0 : Nat)) = some r := by rw [if_pos rfl] at H; exact H
        clear H
        have H := H1
        clear H1
        have H' := Aside0.mk H
        clear H
        have hnb18 := NB336_333.out
        have hnc18 := NB333_336.out
        have hnb19 := NB336_335.out
        have hnc19 := NB335_336.out
        have hcz20_0 : w11.cell? ⟨gb336, 0, none⟩ = some (.int .i8 0) := (blk_cell BK336.out 0).trans rfl
        have hcz20_1 : w11.cell? ⟨gb336, 1, none⟩ = some (.int .i64 0) := (blk_cell BK336.out 1).trans rfl
        have hcz20_2 : w11.cell? ⟨gb336, 2, none⟩ = some (.int .i64 0) := (blk_cell BK336.out 2).trans rfl
        have hcz20_3 : w11.cell? ⟨gb336, 3, none⟩ = some (.string (⟨#[]⟩ : ByteArray)) := (blk_cell BK336.out 3).trans rfl
        have hcz20_4 : w11.cell? ⟨gb336, 4, none⟩ = some (.int .i64 0) := (blk_cell BK336.out 4).trans rfl
        have hcz20_5 : w11.cell? ⟨gb336, 5, none⟩ = some (.int .i64 0) := (blk_cell BK336.out 5).trans rfl
        have hcz20_6 : w11.cell? ⟨gb336, 6, none⟩ = some (.string (⟨#[]⟩ : ByteArray)) := (blk_cell BK336.out 6).trans rfl
        have hcz20_7 : w11.cell? ⟨gb336, 7, none⟩ = some (.int .i64 0) := (blk_cell BK336.out 7).trans rfl
        have hcz20_8 : w11.cell? ⟨gb336, 8, none⟩ = some (.int .i64 0) := (blk_cell BK336.out 8).trans rfl
        have hcz20_9 : w11.cell? ⟨gb336, 9, none⟩ = some (.slice none 0 0) := (blk_cell BK336.out 9).trans rfl
        have hcz20_10 : w11.cell? ⟨gb336, 10, none⟩ = some (.bool false) := (blk_cell BK336.out 10).trans rfl
        have hcz20_11 : w11.cell? ⟨gb336, 11, none⟩ = some (.int .i8 0) := (blk_cell BK336.out 11).trans rfl
        have hcz20_12 : w11.cell? ⟨gb336, 12, none⟩ = some (.float .f64 (0 : Nat)) := (blk_cell BK336.out 12).trans rfl
        have hfz20_0 := blk_frozen BK336.out 0
        have hfz20_1 := blk_frozen BK336.out 1
        have hfz20_2 := blk_frozen BK336.out 2
        have hfz20_3 := blk_frozen BK336.out 3
        have hfz20_4 := blk_frozen BK336.out 4
        have hfz20_5 := blk_frozen BK336.out 5
        have hfz20_6 := blk_frozen BK336.out 6
        have hfz20_7 := blk_frozen BK336.out 7
        have hfz20_8 := blk_frozen BK336.out 8
        have hfz20_9 := blk_frozen BK336.out 9
        have hfz20_10 := blk_frozen BK336.out 10
        have hfz20_11 := blk_frozen BK336.out 11
        have hfz20_12 := blk_frozen BK336.out 12
        go_wp2
        go_meet
        case rel => exact ⟨_, (11), ⟨by rw [← Nbq16.out]; exact H'.out⟩, ⟨by have := HK1.out; first | omega | exact Nat.le_refl _⟩, ⟨by (with_reducible repeat (first | apply Kd.S_alloc | apply Kd.S_drewN | apply Kd.S_drew)); exact Kd.S_mono (Kd.S_far (p := ⟨gb336, 0, none⟩) (Kd.S_far (p := ⟨gb336, 12, none⟩) (Kd.S_far (p := ⟨gb336, 11, none⟩) (Kd.S_far (p := ⟨gb336, 10, none⟩) (Kd.S_far (p := ⟨gb336, 9, none⟩) (Kd.S_far (p := ⟨gb336, 8, none⟩) (Kd.S_far (p := ⟨gb336, 7, none⟩) (Kd.S_far (p := ⟨gb336, 6, none⟩) (Kd.S_far (p := ⟨gb336, 5, none⟩) (Kd.S_far (p := ⟨gb336, 4, none⟩) (Kd.S_far (p := ⟨gb336, 3, none⟩) (Kd.S_far (p := ⟨gb336, 2, none⟩) (Kd.S_far (p := ⟨gb336, 1, none⟩) (Kd.S_far (p := ⟨gb336, 0, none⟩) (Kd.S_mono HO_3.out (fun k_ hk => (⟨hk, hk.2⟩ : _ ∧ k_ ≠ gb336))) (fun _ hk => hk.2) (.int .i8 10)) (fun _ hk => hk.2) (.int .i64 0)) (fun _ hk => hk.2) (.int .i64 0)) (fun _ hk => hk.2) (.string ((rd_T51 l0_9 x12_1).f1))) (fun _ hk => hk.2) (.int .i64 0)) (fun _ hk => hk.2) (.int .i64 0)) (fun _ hk => hk.2) (.string ((rd_T51 l0_9 x12_1).f2))) (fun _ hk => hk.2) (.int .i64 0)) (fun _ hk => hk.2) (.int .i64 0)) (fun _ hk => hk.2) (.slice none 0 0)) (fun _ hk => hk.2) (.bool ((((rd_T51 l0_9 x12_1).f3).length : Int) == 0))) (fun _ hk => hk.2) (.int .i8 ((rd_T51 l0_9 x12_1).f4))) (fun _ hk => hk.2) (.float .f64 (0 : Nat))) (fun _ hk => hk.2) (.int .i8 11)) (fun _ hk => hk.1.2)⟩, ⟨by (with_reducible repeat (first | refine blk_drewN ?_ _ | refine blk_drew ?_ | refine blk_alloc ?_ _)); refine blk_far ?_ NB333_336.out _; (with_reducible repeat (first | refine blk_drewN ?_ _ | refine blk_drew ?_ | refine blk_alloc ?_ _)); refine blk_far ?_ NB333_336.out _; (with_reducible repeat (first | refine blk_drewN ?_ _ | refine blk_drew ?_ | refine blk_alloc ?_ _)); refine blk_far ?_ NB333_336.out _; (with_reducible repeat (first | refine blk_drewN ?_ _ | refine blk_drew ?_ | refine blk_alloc ?_ _)); refine blk_far ?_ NB333_336.out _; (with_reducible repeat (first | refine blk_drewN ?_ _ | refine blk_drew ?_ | refine blk_alloc ?_ _)); refine blk_far ?_ NB333_336.out _; (with_reducible repeat (first | refine blk_drewN ?_ _ | refine blk_drew ?_ | refine blk_alloc ?_ _)); refine blk_far ?_ NB333_336.out _; (with_reducible repeat (first | refine blk_drewN ?_ _ | refine blk_drew ?_ | refine blk_alloc ?_ _)); refine blk_far ?_ NB333_336.out _; (with_reducible repeat (first | refine blk_drewN ?_ _ | refine blk_drew ?_ | refine blk_alloc ?_ _)); refine blk_far ?_ NB333_336.out _; (with_reducible repeat (first | refine blk_drewN ?_ _ | refine blk_drew ?_ | refine blk_alloc ?_ _)); refine blk_far ?_ NB333_336.out _; (with_reducible repeat (first | refine blk_drewN ?_ _ | refine blk_drew ?_ | refine blk_alloc ?_ _)); refine blk_far ?_ NB333_336.out _; (with_reducible repeat (first | refine blk_drewN ?_ _ | refine blk_drew ?_ | refine blk_alloc ?_ _)); refine blk_far ?_ NB333_336.out _; (with_reducible repeat (first | refine blk_drewN ?_ _ | refine blk_drew ?_ | refine blk_alloc ?_ _)); refine blk_far ?_ NB333_336.out _; (with_reducible repeat (first | refine blk_drewN ?_ _ | refine blk_drew ?_ | refine blk_alloc ?_ _)); refine blk_far ?_ NB333_336.out _; (with_reducible repeat (first | refine blk_drewN ?_ _ | refine blk_drew ?_ | refine blk_alloc ?_ _)); refine blk_far ?_ NB333_336.out _; (with_reducible repeat (first | refine blk_drewN ?_ _ | refine blk_drew ?_ | refine blk_alloc ?_ _)); exact BK333.out⟩, ⟨by (with_reducible repeat (first | refine blk_drewN ?_ _ | refine blk_drew ?_ | refine blk_alloc ?_ _)); refine blk_far ?_ NB335_336.out _; (with_reducible repeat (first | refine blk_drewN ?_ _ | refine blk_drew ?_ | refine blk_alloc ?_ _)); refine blk_far ?_ NB335_336.out _; (with_reducible repeat (first | refine blk_drewN ?_ _ | refine blk_drew ?_ | refine blk_alloc ?_ _)); refine blk_far ?_ NB335_336.out _; (with_reducible repeat (first | refine blk_drewN ?_ _ | refine blk_drew ?_ | refine blk_alloc ?_ _)); refine blk_far ?_ NB335_336.out _; (with_reducible repeat (first | refine blk_drewN ?_ _ | refine blk_drew ?_ | refine blk_alloc ?_ _)); refine blk_far ?_ NB335_336.out _; (with_reducible repeat (first | refine blk_drewN ?_ _ | refine blk_drew ?_ | refine blk_alloc ?_ _)); refine blk_far ?_ NB335_336.out _; (with_reducible repeat (first | refine blk_drewN ?_ _ | refine blk_drew ?_ | refine blk_alloc ?_ _)); refine blk_far ?_ NB335_336.out _; (with_reducible repeat (first | refine blk_drewN ?_ _ | refine blk_drew ?_ | refine blk_alloc ?_ _)); refine blk_far ?_ NB335_336.out _; (with_reducible repeat (first | refine blk_drewN ?_ _ | refine blk_drew ?_ | refine blk_alloc ?_ _)); refine blk_far ?_ NB335_336.out _; (with_reducible repeat (first | refine blk_drewN ?_ _ | refine blk_drew ?_ | refine blk_alloc ?_ _)); refine blk_far ?_ NB335_336.out _; (with_reducible repeat (first | refine blk_drewN ?_ _ | refine blk_drew ?_ | refine blk_alloc ?_ _)); refine blk_far ?_ NB335_336.out _; (with_reducible repeat (first | refine blk_drewN ?_ _ | refine blk_drew ?_ | refine blk_alloc ?_ _)); refine blk_far ?_ NB335_336.out _; (with_reducible repeat (first | refine blk_drewN ?_ _ | refine blk_drew ?_ | refine blk_alloc ?_ _)); refine blk_far ?_ NB335_336.out _; (with_reducible repeat (first | refine blk_drewN ?_ _ | refine blk_drew ?_ | refine blk_alloc ?_ _)); refine blk_far ?_ NB335_336.out _; (with_reducible repeat (first | refine blk_drewN ?_ _ | refine blk_drew ?_ | refine blk_alloc ?_ _)); exact BK335.out⟩, ⟨by (with_reducible repeat (first | refine blk_drewN ?_ _ | refine blk_drew ?_ | refine blk_alloc ?_ _)); refine blk_put (cs := #[.int .i8 10, .int .i64 0, .int .i64 0, .string ((rd_T51 l0_9 x12_1).f1), .int .i64 0, .int .i64 0, .string ((rd_T51 l0_9 x12_1).f2), .int .i64 0, .int .i64 0, .slice none 0 0, .bool ((((rd_T51 l0_9 x12_1).f3).length : Int) == 0), .int .i8 ((rd_T51 l0_9 x12_1).f4), .float .f64 (0 : Nat)]) ?_ 0 _ rfl; (with_reducible repeat (first | refine blk_drewN ?_ _ | refine blk_drew ?_ | refine blk_alloc ?_ _)); refine blk_put (cs := #[.int .i8 10, .int .i64 0, .int .i64 0, .string ((rd_T51 l0_9 x12_1).f1), .int .i64 0, .int .i64 0, .string ((rd_T51 l0_9 x12_1).f2), .int .i64 0, .int .i64 0, .slice none 0 0, .bool ((((rd_T51 l0_9 x12_1).f3).length : Int) == 0), .int .i8 ((rd_T51 l0_9 x12_1).f4), .float .f64 (0 : Nat)]) ?_ 12 _ rfl; (with_reducible repeat (first | refine blk_drewN ?_ _ | refine blk_drew ?_ | refine blk_alloc ?_ _)); refine blk_put (cs := #[.int .i8 10, .int .i64 0, .int .i64 0, .string ((rd_T51 l0_9 x12_1).f1), .int .i64 0, .int .i64 0, .string ((rd_T51 l0_9 x12_1).f2), .int .i64 0, .int .i64 0, .slice none 0 0, .bool ((((rd_T51 l0_9 x12_1).f3).length : Int) == 0), .int .i8 0, .float .f64 (0 : Nat)]) ?_ 11 _ rfl; (with_reducible repeat (first | refine blk_drewN ?_ _ | refine blk_drew ?_ | refine blk_alloc ?_ _)); refine blk_put (cs := #[.int .i8 10, .int .i64 0, .int .i64 0, .string ((rd_T51 l0_9 x12_1).f1), .int .i64 0, .int .i64 0, .string ((rd_T51 l0_9 x12_1).f2), .int .i64 0, .int .i64 0, .slice none 0 0, .bool false, .int .i8 0, .float .f64 (0 : Nat)]) ?_ 10 _ rfl; (with_reducible repeat (first | refine blk_drewN ?_ _ | refine blk_drew ?_ | refine blk_alloc ?_ _)); refine blk_put (cs := #[.int .i8 10, .int .i64 0, .int .i64 0, .string ((rd_T51 l0_9 x12_1).f1), .int .i64 0, .int .i64 0, .string ((rd_T51 l0_9 x12_1).f2), .int .i64 0, .int .i64 0, .slice none 0 0, .bool false, .int .i8 0, .float .f64 (0 : Nat)]) ?_ 9 _ rfl; (with_reducible repeat (first | refine blk_drewN ?_ _ | refine blk_drew ?_ | refine blk_alloc ?_ _)); refine blk_put (cs := #[.int .i8 10, .int .i64 0, .int .i64 0, .string ((rd_T51 l0_9 x12_1).f1), .int .i64 0, .int .i64 0, .string ((rd_T51 l0_9 x12_1).f2), .int .i64 0, .int .i64 0, .slice none 0 0, .bool false, .int .i8 0, .float .f64 (0 : Nat)]) ?_ 8 _ rfl; (with_reducible repeat (first | refine blk_drewN ?_ _ | refine blk_drew ?_ | refine blk_alloc ?_ _)); refine blk_put (cs := #[.int .i8 10, .int .i64 0, .int .i64 0, .string ((rd_T51 l0_9 x12_1).f1), .int .i64 0, .int .i64 0, .string ((rd_T51 l0_9 x12_1).f2), .int .i64 0, .int .i64 0, .slice none 0 0, .bool false, .int .i8 0, .float .f64 (0 : Nat)]) ?_ 7 _ rfl; (with_reducible repeat (first | refine blk_drewN ?_ _ | refine blk_drew ?_ | refine blk_alloc ?_ _)); refine blk_put (cs := #[.int .i8 10, .int .i64 0, .int .i64 0, .string ((rd_T51 l0_9 x12_1).f1), .int .i64 0, .int .i64 0, .string (⟨#[]⟩ : ByteArray), .int .i64 0, .int .i64 0, .slice none 0 0, .bool false, .int .i8 0, .float .f64 (0 : Nat)]) ?_ 6 _ rfl; (with_reducible repeat (first | refine blk_drewN ?_ _ | refine blk_drew ?_ | refine blk_alloc ?_ _)); refine blk_put (cs := #[.int .i8 10, .int .i64 0, .int .i64 0, .string ((rd_T51 l0_9 x12_1).f1), .int .i64 0, .int .i64 0, .string (⟨#[]⟩ : ByteArray), .int .i64 0, .int .i64 0, .slice none 0 0, .bool false, .int .i8 0, .float .f64 (0 : Nat)]) ?_ 5 _ rfl; (with_reducible repeat (first | refine blk_drewN ?_ _ | refine blk_drew ?_ | refine blk_alloc ?_ _)); refine blk_put (cs := #[.int .i8 10, .int .i64 0, .int .i64 0, .string ((rd_T51 l0_9 x12_1).f1), .int .i64 0, .int .i64 0, .string (⟨#[]⟩ : ByteArray), .int .i64 0, .int .i64 0, .slice none 0 0, .bool false, .int .i8 0, .float .f64 (0 : Nat)]) ?_ 4 _ rfl; (with_reducible repeat (first | refine blk_drewN ?_ _ | refine blk_drew ?_ | refine blk_alloc ?_ _)); refine blk_put (cs := #[.int .i8 10, .int .i64 0, .int .i64 0, .string (⟨#[]⟩ : ByteArray), .int .i64 0, .int .i64 0, .string (⟨#[]⟩ : ByteArray), .int .i64 0, .int .i64 0, .slice none 0 0, .bool false, .int .i8 0, .float .f64 (0 : Nat)]) ?_ 3 _ rfl; (with_reducible repeat (first | refine blk_drewN ?_ _ | refine blk_drew ?_ | refine blk_alloc ?_ _)); refine blk_put (cs := #[.int .i8 10, .int .i64 0, .int .i64 0, .string (⟨#[]⟩ : ByteArray), .int .i64 0, .int .i64 0, .string (⟨#[]⟩ : ByteArray), .int .i64 0, .int .i64 0, .slice none 0 0, .bool false, .int .i8 0, .float .f64 (0 : Nat)]) ?_ 2 _ rfl; (with_reducible repeat (first | refine blk_drewN ?_ _ | refine blk_drew ?_ | refine blk_alloc ?_ _)); refine blk_put (cs := #[.int .i8 10, .int .i64 0, .int .i64 0, .string (⟨#[]⟩ : ByteArray), .int .i64 0, .int .i64 0, .string (⟨#[]⟩ : ByteArray), .int .i64 0, .int .i64 0, .slice none 0 0, .bool false, .int .i8 0, .float .f64 (0 : Nat)]) ?_ 1 _ rfl; (with_reducible repeat (first | refine blk_drewN ?_ _ | refine blk_drew ?_ | refine blk_alloc ?_ _)); refine blk_put (cs := #[.int .i8 0, .int .i64 0, .int .i64 0, .string (⟨#[]⟩ : ByteArray), .int .i64 0, .int .i64 0, .string (⟨#[]⟩ : ByteArray), .int .i64 0, .int .i64 0, .slice none 0 0, .bool false, .int .i8 0, .float .f64 (0 : Nat)]) ?_ 0 _ rfl; (with_reducible repeat (first | refine blk_drewN ?_ _ | refine blk_drew ?_ | refine blk_alloc ?_ _)); exact BK336.out⟩, ⟨by repeat (first | (with_reducible first | exact HB.out | apply below_alloc | apply pw_below_drewN | apply below_drew1 | refine below_set ?_ GE333.out | refine below_set ?_ GE335.out | refine below_set ?_ GE336.out) | exact HB.out)⟩⟩
       ·replace c17 := Bool.eq_false_iff.mpr c17
        subst c17
        have H1 : (canon_rules.j1 k1 x3_1 l0_9 (l0_9.length : Int) x12_1 false ((rd_T51 l0_9 x12_1).f1) ((rd_T51 l0_9 x12_1).f2) ((rd_T51 l0_9 x12_1).f3) ((rd_T51 l0_9 x12_1).f4) ((rd_T51 l0_9 x12_1).f5) 10 0 0 ((rd_T51 l0_9 x12_1).f1) 0 0 ((rd_T51 l0_9 x12_1).f2) 0 0 ((((rd_T51 l0_9 x12_1).f3).length : Int) == 0) ((rd_T51 l0_9 x12_1).f4) (0 : Nat)) = some r := by rw [if_neg (show ¬ (false = true) by decide)] at H; exact H
        clear H
        have H := H1
        clear H1
        have H' := Aside0.mk H
        clear H
        go_wp2
        go_meet
        case rel => exact ⟨_, (10), ⟨by rw [← Nbq16.out]; exact H'.out⟩, ⟨by have := HK1.out; first | omega | exact Nat.le_refl _⟩, ⟨by (with_reducible repeat (first | apply Kd.S_alloc | apply Kd.S_drewN | apply Kd.S_drew)); exact Kd.S_mono (Kd.S_far (p := ⟨gb336, 12, none⟩) (Kd.S_far (p := ⟨gb336, 11, none⟩) (Kd.S_far (p := ⟨gb336, 10, none⟩) (Kd.S_far (p := ⟨gb336, 9, none⟩) (Kd.S_far (p := ⟨gb336, 8, none⟩) (Kd.S_far (p := ⟨gb336, 7, none⟩) (Kd.S_far (p := ⟨gb336, 6, none⟩) (Kd.S_far (p := ⟨gb336, 5, none⟩) (Kd.S_far (p := ⟨gb336, 4, none⟩) (Kd.S_far (p := ⟨gb336, 3, none⟩) (Kd.S_far (p := ⟨gb336, 2, none⟩) (Kd.S_far (p := ⟨gb336, 1, none⟩) (Kd.S_far (p := ⟨gb336, 0, none⟩) (Kd.S_mono HO_3.out (fun k_ hk => (⟨hk, hk.2⟩ : _ ∧ k_ ≠ gb336))) (fun _ hk => hk.2) (.int .i8 10)) (fun _ hk => hk.2) (.int .i64 0)) (fun _ hk => hk.2) (.int .i64 0)) (fun _ hk => hk.2) (.string ((rd_T51 l0_9 x12_1).f1))) (fun _ hk => hk.2) (.int .i64 0)) (fun _ hk => hk.2) (.int .i64 0)) (fun _ hk => hk.2) (.string ((rd_T51 l0_9 x12_1).f2))) (fun _ hk => hk.2) (.int .i64 0)) (fun _ hk => hk.2) (.int .i64 0)) (fun _ hk => hk.2) (.slice none 0 0)) (fun _ hk => hk.2) (.bool ((((rd_T51 l0_9 x12_1).f3).length : Int) == 0))) (fun _ hk => hk.2) (.int .i8 ((rd_T51 l0_9 x12_1).f4))) (fun _ hk => hk.2) (.float .f64 (0 : Nat))) (fun _ hk => hk.1.2)⟩, ⟨by (with_reducible repeat (first | refine blk_drewN ?_ _ | refine blk_drew ?_ | refine blk_alloc ?_ _)); refine blk_far ?_ NB333_336.out _; (with_reducible repeat (first | refine blk_drewN ?_ _ | refine blk_drew ?_ | refine blk_alloc ?_ _)); refine blk_far ?_ NB333_336.out _; (with_reducible repeat (first | refine blk_drewN ?_ _ | refine blk_drew ?_ | refine blk_alloc ?_ _)); refine blk_far ?_ NB333_336.out _; (with_reducible repeat (first | refine blk_drewN ?_ _ | refine blk_drew ?_ | refine blk_alloc ?_ _)); refine blk_far ?_ NB333_336.out _; (with_reducible repeat (first | refine blk_drewN ?_ _ | refine blk_drew ?_ | refine blk_alloc ?_ _)); refine blk_far ?_ NB333_336.out _; (with_reducible repeat (first | refine blk_drewN ?_ _ | refine blk_drew ?_ | refine blk_alloc ?_ _)); refine blk_far ?_ NB333_336.out _; (with_reducible repeat (first | refine blk_drewN ?_ _ | refine blk_drew ?_ | refine blk_alloc ?_ _)); refine blk_far ?_ NB333_336.out _; (with_reducible repeat (first | refine blk_drewN ?_ _ | refine blk_drew ?_ | refine blk_alloc ?_ _)); refine blk_far ?_ NB333_336.out _; (with_reducible repeat (first | refine blk_drewN ?_ _ | refine blk_drew ?_ | refine blk_alloc ?_ _)); refine blk_far ?_ NB333_336.out _; (with_reducible repeat (first | refine blk_drewN ?_ _ | refine blk_drew ?_ | refine blk_alloc ?_ _)); refine blk_far ?_ NB333_336.out _; (with_reducible repeat (first | refine blk_drewN ?_ _ | refine blk_drew ?_ | refine blk_alloc ?_ _)); refine blk_far ?_ NB333_336.out _; (with_reducible repeat (first | refine blk_drewN ?_ _ | refine blk_drew ?_ | refine blk_alloc ?_ _)); refine blk_far ?_ NB333_336.out _; (with_reducible repeat (first | refine blk_drewN ?_ _ | refine blk_drew ?_ | refine blk_alloc ?_ _)); refine blk_far ?_ NB333_336.out _; (with_reducible repeat (first | refine blk_drewN ?_ _ | refine blk_drew ?_ | refine blk_alloc ?_ _)); exact BK333.out⟩, ⟨by (with_reducible repeat (first | refine blk_drewN ?_ _ | refine blk_drew ?_ | refine blk_alloc ?_ _)); refine blk_far ?_ NB335_336.out _; (with_reducible repeat (first | refine blk_drewN ?_ _ | refine blk_drew ?_ | refine blk_alloc ?_ _)); refine blk_far ?_ NB335_336.out _; (with_reducible repeat (first | refine blk_drewN ?_ _ | refine blk_drew ?_ | refine blk_alloc ?_ _)); refine blk_far ?_ NB335_336.out _; (with_reducible repeat (first | refine blk_drewN ?_ _ | refine blk_drew ?_ | refine blk_alloc ?_ _)); refine blk_far ?_ NB335_336.out _; (with_reducible repeat (first | refine blk_drewN ?_ _ | refine blk_drew ?_ | refine blk_alloc ?_ _)); refine blk_far ?_ NB335_336.out _; (with_reducible repeat (first | refine blk_drewN ?_ _ | refine blk_drew ?_ | refine blk_alloc ?_ _)); refine blk_far ?_ NB335_336.out _; (with_reducible repeat (first | refine blk_drewN ?_ _ | refine blk_drew ?_ | refine blk_alloc ?_ _)); refine blk_far ?_ NB335_336.out _; (with_reducible repeat (first | refine blk_drewN ?_ _ | refine blk_drew ?_ | refine blk_alloc ?_ _)); refine blk_far ?_ NB335_336.out _; (with_reducible repeat (first | refine blk_drewN ?_ _ | refine blk_drew ?_ | refine blk_alloc ?_ _)); refine blk_far ?_ NB335_336.out _; (with_reducible repeat (first | refine blk_drewN ?_ _ | refine blk_drew ?_ | refine blk_alloc ?_ _)); refine blk_far ?_ NB335_336.out _; (with_reducible repeat (first | refine blk_drewN ?_ _ | refine blk_drew ?_ | refine blk_alloc ?_ _)); refine blk_far ?_ NB335_336.out _; (with_reducible repeat (first | refine blk_drewN ?_ _ | refine blk_drew ?_ | refine blk_alloc ?_ _)); refine blk_far ?_ NB335_336.out _; (with_reducible repeat (first | refine blk_drewN ?_ _ | refine blk_drew ?_ | refine blk_alloc ?_ _)); refine blk_far ?_ NB335_336.out _; (with_reducible repeat (first | refine blk_drewN ?_ _ | refine blk_drew ?_ | refine blk_alloc ?_ _)); exact BK335.out⟩, ⟨by (with_reducible repeat (first | refine blk_drewN ?_ _ | refine blk_drew ?_ | refine blk_alloc ?_ _)); refine blk_put (cs := #[.int .i8 10, .int .i64 0, .int .i64 0, .string ((rd_T51 l0_9 x12_1).f1), .int .i64 0, .int .i64 0, .string ((rd_T51 l0_9 x12_1).f2), .int .i64 0, .int .i64 0, .slice none 0 0, .bool ((((rd_T51 l0_9 x12_1).f3).length : Int) == 0), .int .i8 ((rd_T51 l0_9 x12_1).f4), .float .f64 (0 : Nat)]) ?_ 12 _ rfl; (with_reducible repeat (first | refine blk_drewN ?_ _ | refine blk_drew ?_ | refine blk_alloc ?_ _)); refine blk_put (cs := #[.int .i8 10, .int .i64 0, .int .i64 0, .string ((rd_T51 l0_9 x12_1).f1), .int .i64 0, .int .i64 0, .string ((rd_T51 l0_9 x12_1).f2), .int .i64 0, .int .i64 0, .slice none 0 0, .bool ((((rd_T51 l0_9 x12_1).f3).length : Int) == 0), .int .i8 0, .float .f64 (0 : Nat)]) ?_ 11 _ rfl; (with_reducible repeat (first | refine blk_drewN ?_ _ | refine blk_drew ?_ | refine blk_alloc ?_ _)); refine blk_put (cs := #[.int .i8 10, .int .i64 0, .int .i64 0, .string ((rd_T51 l0_9 x12_1).f1), .int .i64 0, .int .i64 0, .string ((rd_T51 l0_9 x12_1).f2), .int .i64 0, .int .i64 0, .slice none 0 0, .bool false, .int .i8 0, .float .f64 (0 : Nat)]) ?_ 10 _ rfl; (with_reducible repeat (first | refine blk_drewN ?_ _ | refine blk_drew ?_ | refine blk_alloc ?_ _)); refine blk_put (cs := #[.int .i8 10, .int .i64 0, .int .i64 0, .string ((rd_T51 l0_9 x12_1).f1), .int .i64 0, .int .i64 0, .string ((rd_T51 l0_9 x12_1).f2), .int .i64 0, .int .i64 0, .slice none 0 0, .bool false, .int .i8 0, .float .f64 (0 : Nat)]) ?_ 9 _ rfl; (with_reducible repeat (first | refine blk_drewN ?_ _ | refine blk_drew ?_ | refine blk_alloc ?_ _)); refine blk_put (cs := #[.int .i8 10, .int .i64 0, .int .i64 0, .string ((rd_T51 l0_9 x12_1).f1), .int .i64 0, .int .i64 0, .string ((rd_T51 l0_9 x12_1).f2), .int .i64 0, .int .i64 0, .slice none 0 0, .bool false, .int .i8 0, .float .f64 (0 : Nat)]) ?_ 8 _ rfl; (with_reducible repeat (first | refine blk_drewN ?_ _ | refine blk_drew ?_ | refine blk_alloc ?_ _)); refine blk_put (cs := #[.int .i8 10, .int .i64 0, .int .i64 0, .string ((rd_T51 l0_9 x12_1).f1), .int .i64 0, .int .i64 0, .string ((rd_T51 l0_9 x12_1).f2), .int .i64 0, .int .i64 0, .slice none 0 0, .bool false, .int .i8 0, .float .f64 (0 : Nat)]) ?_ 7 _ rfl; (with_reducible repeat (first | refine blk_drewN ?_ _ | refine blk_drew ?_ | refine blk_alloc ?_ _)); refine blk_put (cs := #[.int .i8 10, .int .i64 0, .int .i64 0, .string ((rd_T51 l0_9 x12_1).f1), .int .i64 0, .int .i64 0, .string (⟨#[]⟩ : ByteArray), .int .i64 0, .int .i64 0, .slice none 0 0, .bool false, .int .i8 0, .float .f64 (0 : Nat)]) ?_ 6 _ rfl; (with_reducible repeat (first | refine blk_drewN ?_ _ | refine blk_drew ?_ | refine blk_alloc ?_ _)); refine blk_put (cs := #[.int .i8 10, .int .i64 0, .int .i64 0, .string ((rd_T51 l0_9 x12_1).f1), .int .i64 0, .int .i64 0, .string (⟨#[]⟩ : ByteArray), .int .i64 0, .int .i64 0, .slice none 0 0, .bool false, .int .i8 0, .float .f64 (0 : Nat)]) ?_ 5 _ rfl; (with_reducible repeat (first | refine blk_drewN ?_ _ | refine blk_drew ?_ | refine blk_alloc ?_ _)); refine blk_put (cs := #[.int .i8 10, .int .i64 0, .int .i64 0, .string ((rd_T51 l0_9 x12_1).f1), .int .i64 0, .int .i64 0, .string (⟨#[]⟩ : ByteArray), .int .i64 0, .int .i64 0, .slice none 0 0, .bool false, .int .i8 0, .float .f64 (0 : Nat)]) ?_ 4 _ rfl; (with_reducible repeat (first | refine blk_drewN ?_ _ | refine blk_drew ?_ | refine blk_alloc ?_ _)); refine blk_put (cs := #[.int .i8 10, .int .i64 0, .int .i64 0, .string (⟨#[]⟩ : ByteArray), .int .i64 0, .int .i64 0, .string (⟨#[]⟩ : ByteArray), .int .i64 0, .int .i64 0, .slice none 0 0, .bool false, .int .i8 0, .float .f64 (0 : Nat)]) ?_ 3 _ rfl; (with_reducible repeat (first | refine blk_drewN ?_ _ | refine blk_drew ?_ | refine blk_alloc ?_ _)); refine blk_put (cs := #[.int .i8 10, .int .i64 0, .int .i64 0, .string (⟨#[]⟩ : ByteArray), .int .i64 0, .int .i64 0, .string (⟨#[]⟩ : ByteArray), .int .i64 0, .int .i64 0, .slice none 0 0, .bool false, .int .i8 0, .float .f64 (0 : Nat)]) ?_ 2 _ rfl; (with_reducible repeat (first | refine blk_drewN ?_ _ | refine blk_drew ?_ | refine blk_alloc ?_ _)); refine blk_put (cs := #[.int .i8 10, .int .i64 0, .int .i64 0, .string (⟨#[]⟩ : ByteArray), .int .i64 0, .int .i64 0, .string (⟨#[]⟩ : ByteArray), .int .i64 0, .int .i64 0, .slice none 0 0, .bool false, .int .i8 0, .float .f64 (0 : Nat)]) ?_ 1 _ rfl; (with_reducible repeat (first | refine blk_drewN ?_ _ | refine blk_drew ?_ | refine blk_alloc ?_ _)); refine blk_put (cs := #[.int .i8 0, .int .i64 0, .int .i64 0, .string (⟨#[]⟩ : ByteArray), .int .i64 0, .int .i64 0, .string (⟨#[]⟩ : ByteArray), .int .i64 0, .int .i64 0, .slice none 0 0, .bool false, .int .i8 0, .float .f64 (0 : Nat)]) ?_ 0 _ rfl; (with_reducible repeat (first | refine blk_drewN ?_ _ | refine blk_drew ?_ | refine blk_alloc ?_ _)); exact BK336.out⟩, ⟨by repeat (first | (with_reducible first | exact HB.out | apply below_alloc | apply pw_below_drewN | apply below_drew1 | refine below_set ?_ GE333.out | refine below_set ?_ GE335.out | refine below_set ?_ GE336.out) | exact HB.out)⟩⟩
      case rest =>
       clear HC7
       try clear c1
       try clear q1
       try clear p2
       try clear c3
       try clear p3
       try clear q3
       try clear hx3
       try clear c4
       try clear c4b0
       try clear c5
       try clear c5b0
       try clear c6
       try clear c6b0
       try clear c9
       try clear c12
       try clear c13
       try clear q16
       try clear c17
       try clear c18
       try clear c19
       try clear hcz10_0
       try clear hcz10_1
       try clear hcz10_2
       try clear hcz10_3
       try clear hcz10_4
       try clear hcz10_5
       try clear hcz14_0
       try clear hcz14_1
       try clear hcz14_10
       try clear hcz14_11
       try clear hcz14_12
       try clear hcz14_2
       try clear hcz14_3
       try clear hcz14_4
       try clear hcz14_5
       try clear hcz14_6
       try clear hcz14_7
       try clear hcz14_8
       try clear hcz14_9
       try clear hcz15_0
       try clear hcz15_1
       try clear hcz15_2
       try clear hcz15_3
       try clear hcz15_4
       try clear hcz15_5
       try clear hcz20_0
       try clear hcz20_1
       try clear hcz20_10
       try clear hcz20_11
       try clear hcz20_12
       try clear hcz20_2
       try clear hcz20_3
       try clear hcz20_4
       try clear hcz20_5
       try clear hcz20_6
       try clear hcz20_7
       try clear hcz20_8
       try clear hcz20_9
       try clear hcz3_0
       try clear hcz3_1
       try clear hcz3_10
       try clear hcz3_2
       try clear hcz3_3
       try clear hcz3_4
       try clear hcz3_5
       try clear hcz3_6
       try clear hcz3_7
       try clear hcz3_8
       try clear hcz3_9
       try clear hfz10_0
       try clear hfz10_1
       try clear hfz10_2
       try clear hfz10_3
       try clear hfz10_4
       try clear hfz10_5
       try clear hfz14_0
       try clear hfz14_1
       try clear hfz14_10
       try clear hfz14_11
       try clear hfz14_12
       try clear hfz14_2
       try clear hfz14_3
       try clear hfz14_4
       try clear hfz14_5
       try clear hfz14_6
       try clear hfz14_7
       try clear hfz14_8
       try clear hfz14_9
       try clear hfz15_0
       try clear hfz15_1
       try clear hfz15_2
       try clear hfz15_3
       try clear hfz15_4
       try clear hfz15_5
       try clear hfz20_0
       try clear hfz20_1
       try clear hfz20_10
       try clear hfz20_11
       try clear hfz20_12
       try clear hfz20_2
       try clear hfz20_3
       try clear hfz20_4
       try clear hfz20_5
       try clear hfz20_6
       try clear hfz20_7
       try clear hfz20_8
       try clear hfz20_9
       try clear hfz3_0
       try clear hfz3_1
       try clear hfz3_10
       try clear hfz3_2
       try clear hfz3_3
       try clear hfz3_4
       try clear hfz3_5
       try clear hfz3_6
       try clear hfz3_7
       try clear hfz3_8
       try clear hfz3_9
       try clear hx334_0
       try clear hx334_1
       try clear hx334_2
       try clear hx334_3
       try clear hx334_4
       try clear hx334_5
       try clear p2
       try clear p334
       try clear q334
       obtain ⟨kq, x337000_6, HA, HJ6, HO_3, BK333, BK335, BK336, HB⟩ := hcut
       cases kq with
       | zero => exact absurd HA.out (by simp [canon_rules.j1])
       | succ kj6 =>
        have H := HA.out
        clear HA
        simp only [canon_rules.j1] at H
        have HC21 := Aside0.mk H
        clear H
        have hnb22 := NB335_333.out
        have hnc22 := NB333_335.out
        have hnb23 := NB335_336.out
        have hnc23 := NB336_335.out
        have hcz24_0 : wc.cell? ⟨gb335, 0, none⟩ = some (.bool ((rd_T51 l0_9 x12_1).f0)) := (blk_cell BK335.out 0).trans rfl
        have hcz24_1 : wc.cell? ⟨gb335, 1, none⟩ = some (.string ((rd_T51 l0_9 x12_1).f1)) := (blk_cell BK335.out 1).trans rfl
        have hcz24_2 : wc.cell? ⟨gb335, 2, none⟩ = some (.string ((rd_T51 l0_9 x12_1).f2)) := (blk_cell BK335.out 2).trans rfl
        have hcz24_3 : wc.cell? ⟨gb335, 3, none⟩ = some (.slice A334_3 ((rd_T51 l0_9 x12_1).f3).length c334_3) := (blk_cell BK335.out 3).trans rfl
        have hcz24_4 : wc.cell? ⟨gb335, 4, none⟩ = some (.int .i8 ((rd_T51 l0_9 x12_1).f4)) := (blk_cell BK335.out 4).trans rfl
        have hcz24_5 : wc.cell? ⟨gb335, 5, none⟩ = some (.float .f64 ((rd_T51 l0_9 x12_1).f5)) := (blk_cell BK335.out 5).trans rfl
        have hfz24_0 := blk_frozen BK335.out 0
        have hfz24_1 := blk_frozen BK335.out 1
        have hfz24_2 := blk_frozen BK335.out 2
        have hfz24_3 := blk_frozen BK335.out 3
        have hfz24_4 := blk_frozen BK335.out 4
        have hfz24_5 := blk_frozen BK335.out 5
        go_upto_if 34 with (fail)
        go_cut [] (fun wc => ∃ (kq : Nat) (x337012_20 : Nat), Aside0 (canon_rules.j2 kq x3_1 l0_9 (l0_9.length : Int) x12_1 ((rd_T51 l0_9 x12_1).f0) ((rd_T51 l0_9 x12_1).f1) ((rd_T51 l0_9 x12_1).f2) ((rd_T51 l0_9 x12_1).f3) ((rd_T51 l0_9 x12_1).f4) ((rd_T51 l0_9 x12_1).f5) x337000_6 0 0 ((rd_T51 l0_9 x12_1).f1) 0 0 ((rd_T51 l0_9 x12_1).f2) 0 0 ((((rd_T51 l0_9 x12_1).f3).length : Int) == 0) ((rd_T51 l0_9 x12_1).f4) x337012_20 = some r) ∧ Aside0 (kq ≤ kj6) ∧ Aside0 (Kd.S k47 47 wc w.heap.size (fun k_ => k_ ≠ gb336) u3 x3_1) ∧ Aside0 (wc.heap[gb333]? = some (.cells #[(.slice A0_0 l0_0.length c0_0), (.slice A0_1 l0_1.length c0_1), (.slice A0_2 l0_2.length c0_2), (.slice A0_3 l0_3.length c0_3), (.slice A0_4 l0_4.length c0_4), (.slice A0_5 l0_5.length c0_5), (.slice A0_6 l0_6.length c0_6), (.slice A0_7 l0_7.length c0_7), (.slice A0_8 l0_8.length c0_8), (.slice (some ad334) l0_9.length c0_9), (.slice A0_10 l0_10.length c0_10)] 28 (0, 0))) ∧ Aside0 (wc.heap[gb335]? = some (.cells #[.bool ((rd_T51 l0_9 x12_1).f0), .string ((rd_T51 l0_9 x12_1).f1), .string ((rd_T51 l0_9 x12_1).f2), (.slice A334_3 ((rd_T51 l0_9 x12_1).f3).length c334_3), .int .i8 ((rd_T51 l0_9 x12_1).f4), .float .f64 ((rd_T51 l0_9 x12_1).f5)] 51 (0, 0))) ∧ Aside0 (wc.heap[gb336]? = some (.cells #[.int .i8 x337000_6, .int .i64 0, .int .i64 0, .string ((rd_T51 l0_9 x12_1).f1), .int .i64 0, .int .i64 0, .string ((rd_T51 l0_9 x12_1).f2), .int .i64 0, .int .i64 0, (.slice none 0 0), .bool ((((rd_T51 l0_9 x12_1).f3).length : Int) == 0), .int .i8 ((rd_T51 l0_9 x12_1).f4), .float .f64 x337012_20] 47 (0, 0))) ∧ Aside0 (Below w.heap.size w wc))
        case first =>
         have H := HC21.out
         clear HC21
         by_cases c25 : ((rd_T51 l0_9 x12_1).f4) = 0
         ·rw [if_pos c25] at H
          have c25b0 : (((rd_T51 l0_9 x12_1).f4) == 0) = true := beq_iff_eq.mpr c25
          have c25b1 : (((rd_T51 l0_9 x12_1).f4) != 0) = false := bne_eq_false_iff_eq.mpr c25
          clear c25
          (first | rw [c25b0] | (simp only [i64_w, i32_w]; rw [c25b0]) | skip)
          have H' := Aside0.mk H
          clear H
          go_wp2
          go_meet
          case rel => exact ⟨_, ((0 : Nat)), H', ⟨by have := HK1.out; have := HJ6.out; first | omega | exact Nat.le_refl _⟩, ⟨by (with_reducible repeat (first | apply Kd.S_alloc | apply Kd.S_drewN | apply Kd.S_drew)); exact HO_3.out⟩, ⟨by (with_reducible repeat (first | refine blk_drewN ?_ _ | refine blk_drew ?_ | refine blk_alloc ?_ _)); exact BK333.out⟩, ⟨by (with_reducible repeat (first | refine blk_drewN ?_ _ | refine blk_drew ?_ | refine blk_alloc ?_ _)); exact BK335.out⟩, ⟨by (with_reducible repeat (first | refine blk_drewN ?_ _ | refine blk_drew ?_ | refine blk_alloc ?_ _)); exact BK336.out⟩, ⟨by repeat (first | (with_reducible first | exact HB.out | apply below_alloc | apply pw_below_drewN | apply below_drew1 | refine below_set ?_ GE333.out | refine below_set ?_ GE335.out | refine below_set ?_ GE336.out) | exact HB.out)⟩⟩
         ·rw [if_neg c25] at H
          have c25b0 : (((rd_T51 l0_9 x12_1).f4) == 0) = false := beq_eq_false_iff_ne.mpr c25
          have c25b1 : (((rd_T51 l0_9 x12_1).f4) != 0) = true := bne_iff_ne.mpr c25
          (first | rw [c25b0] | (simp only [i64_w, i32_w]; rw [c25b0]) | skip)
          have H' := Aside0.mk H
          clear H
          have hnb26 := NB335_333.out
          have hnc26 := NB333_335.out
          have hnb27 := NB335_336.out
          have hnc27 := NB336_335.out
          have hcz28_0 : wc.cell? ⟨gb335, 0, none⟩ = some (.bool ((rd_T51 l0_9 x12_1).f0)) := (blk_cell BK335.out 0).trans rfl
          have hcz28_1 : wc.cell? ⟨gb335, 1, none⟩ = some (.string ((rd_T51 l0_9 x12_1).f1)) := (blk_cell BK335.out 1).trans rfl
          have hcz28_2 : wc.cell? ⟨gb335, 2, none⟩ = some (.string ((rd_T51 l0_9 x12_1).f2)) := (blk_cell BK335.out 2).trans rfl
          have hcz28_3 : wc.cell? ⟨gb335, 3, none⟩ = some (.slice A334_3 ((rd_T51 l0_9 x12_1).f3).length c334_3) := (blk_cell BK335.out 3).trans rfl
          have hcz28_4 : wc.cell? ⟨gb335, 4, none⟩ = some (.int .i8 ((rd_T51 l0_9 x12_1).f4)) := (blk_cell BK335.out 4).trans rfl
          have hcz28_5 : wc.cell? ⟨gb335, 5, none⟩ = some (.float .f64 ((rd_T51 l0_9 x12_1).f5)) := (blk_cell BK335.out 5).trans rfl
          have hfz28_0 := blk_frozen BK335.out 0
          have hfz28_1 := blk_frozen BK335.out 1
          have hfz28_2 := blk_frozen BK335.out 2
          have hfz28_3 := blk_frozen BK335.out 3
          have hfz28_4 := blk_frozen BK335.out 4
          have hfz28_5 := blk_frozen BK335.out 5
          have hnb29 := NB336_333.out
          have hnc29 := NB333_336.out
          have hcz30_0 : wc.cell? ⟨gb336, 0, none⟩ = some (.int .i8 x337000_6) := (blk_cell BK336.out 0).trans rfl
          have hcz30_1 : wc.cell? ⟨gb336, 1, none⟩ = some (.int .i64 0) := (blk_cell BK336.out 1).trans rfl
          have hcz30_2 : wc.cell? ⟨gb336, 2, none⟩ = some (.int .i64 0) := (blk_cell BK336.out 2).trans rfl
          have hcz30_3 : wc.cell? ⟨gb336, 3, none⟩ = some (.string ((rd_T51 l0_9 x12_1).f1)) := (blk_cell BK336.out 3).trans rfl
          have hcz30_4 : wc.cell? ⟨gb336, 4, none⟩ = some (.int .i64 0) := (blk_cell BK336.out 4).trans rfl
          have hcz30_5 : wc.cell? ⟨gb336, 5, none⟩ = some (.int .i64 0) := (blk_cell BK336.out 5).trans rfl
          have hcz30_6 : wc.cell? ⟨gb336, 6, none⟩ = some (.string ((rd_T51 l0_9 x12_1).f2)) := (blk_cell BK336.out 6).trans rfl
          have hcz30_7 : wc.cell? ⟨gb336, 7, none⟩ = some (.int .i64 0) := (blk_cell BK336.out 7).trans rfl
          have hcz30_8 : wc.cell? ⟨gb336, 8, none⟩ = some (.int .i64 0) := (blk_cell BK336.out 8).trans rfl
          have hcz30_9 : wc.cell? ⟨gb336, 9, none⟩ = some (.slice none 0 0) := (blk_cell BK336.out 9).trans rfl
          have hcz30_10 : wc.cell? ⟨gb336, 10, none⟩ = some (.bool ((((rd_T51 l0_9 x12_1).f3).length : Int) == 0)) := (blk_cell BK336.out 10).trans rfl
          have hcz30_11 : wc.cell? ⟨gb336, 11, none⟩ = some (.int .i8 ((rd_T51 l0_9 x12_1).f4)) := (blk_cell BK336.out 11).trans rfl
          have hcz30_12 : wc.cell? ⟨gb336, 12, none⟩ = some (.float .f64 (0 : Nat)) := (blk_cell BK336.out 12).trans rfl
          have hfz30_0 := blk_frozen BK336.out 0
          have hfz30_1 := blk_frozen BK336.out 1
          have hfz30_2 := blk_frozen BK336.out 2
          have hfz30_3 := blk_frozen BK336.out 3
          have hfz30_4 := blk_frozen BK336.out 4
          have hfz30_5 := blk_frozen BK336.out 5
          have hfz30_6 := blk_frozen BK336.out 6
          have hfz30_7 := blk_frozen BK336.out 7
          have hfz30_8 := blk_frozen BK336.out 8
          have hfz30_9 := blk_frozen BK336.out 9
          have hfz30_10 := blk_frozen BK336.out 10
          have hfz30_11 := blk_frozen BK336.out 11
          have hfz30_12 := blk_frozen BK336.out 12
          go_wp2
          go_meet
          case rel => exact ⟨_, (((rd_T51 l0_9 x12_1).f5)), H', ⟨by have := HK1.out; have := HJ6.out; first | omega | exact Nat.le_refl _⟩, ⟨by (with_reducible repeat (first | apply Kd.S_alloc | apply Kd.S_drewN | apply Kd.S_drew)); exact Kd.S_mono (Kd.S_far (p := ⟨gb336, 12, none⟩) (Kd.S_mono HO_3.out (fun k_ hk => (⟨hk, hk⟩ : _ ∧ k_ ≠ gb336))) (fun _ hk => hk.2) (.float .f64 ((rd_T51 l0_9 x12_1).f5))) (fun _ hk => hk.1)⟩, ⟨by (with_reducible repeat (first | refine blk_drewN ?_ _ | refine blk_drew ?_ | refine blk_alloc ?_ _)); refine blk_far ?_ NB333_336.out _; (with_reducible repeat (first | refine blk_drewN ?_ _ | refine blk_drew ?_ | refine blk_alloc ?_ _)); exact BK333.out⟩, ⟨by (with_reducible repeat (first | refine blk_drewN ?_ _ | refine blk_drew ?_ | refine blk_alloc ?_ _)); refine blk_far ?_ NB335_336.out _; (with_reducible repeat (first | refine blk_drewN ?_ _ | refine blk_drew ?_ | refine blk_alloc ?_ _)); exact BK335.out⟩, ⟨by (with_reducible repeat (first | refine blk_drewN ?_ _ | refine blk_drew ?_ | refine blk_alloc ?_ _)); refine blk_put (cs := #[.int .i8 x337000_6, .int .i64 0, .int .i64 0, .string ((rd_T51 l0_9 x12_1).f1), .int .i64 0, .int .i64 0, .string ((rd_T51 l0_9 x12_1).f2), .int .i64 0, .int .i64 0, .slice none 0 0, .bool ((((rd_T51 l0_9 x12_1).f3).length : Int) == 0), .int .i8 ((rd_T51 l0_9 x12_1).f4), .float .f64 (0 : Nat)]) ?_ 12 _ rfl; (with_reducible repeat (first | refine blk_drewN ?_ _ | refine blk_drew ?_ | refine blk_alloc ?_ _)); exact BK336.out⟩, ⟨by repeat (first | (with_reducible first | exact HB.out | apply below_alloc | apply pw_below_drewN | apply below_drew1 | refine below_set ?_ GE333.out | refine below_set ?_ GE335.out | refine below_set ?_ GE336.out) | exact HB.out)⟩⟩
        case rest =>
         clear HC21
         try clear c1
         try clear q1
         try clear c2
         try clear p2
         try clear c3
         try clear p3
         try clear q3
         try clear hx3
         try clear c4
         try clear c4b0
         try clear c5
         try clear c5b0
         try clear c6
         try clear c6b0
         try clear c9
         try clear c12
         try clear c13
         try clear q16
         try clear c17
         try clear c18
         try clear c19
         try clear c22
         try clear c23
         try clear c25
         try clear c25b0
         try clear c25b1
         try clear c26
         try clear c27
         try clear c29
         try clear hcz10_0
         try clear hcz10_1
         try clear hcz10_2
         try clear hcz10_3
         try clear hcz10_4
         try clear hcz10_5
         try clear hcz14_0
         try clear hcz14_1
         try clear hcz14_10
         try clear hcz14_11
         try clear hcz14_12
         try clear hcz14_2
         try clear hcz14_3
         try clear hcz14_4
         try clear hcz14_5
         try clear hcz14_6
         try clear hcz14_7
         try clear hcz14_8
         try clear hcz14_9
         try clear hcz15_0
         try clear hcz15_1
         try clear hcz15_2
         try clear hcz15_3
         try clear hcz15_4
         try clear hcz15_5
         try clear hcz20_0
         try clear hcz20_1
         try clear hcz20_10
         try clear hcz20_11
         try clear hcz20_12
         try clear hcz20_2
         try clear hcz20_3
         try clear hcz20_4
         try clear hcz20_5
         try clear hcz20_6
         try clear hcz20_7
         try clear hcz20_8
         try clear hcz20_9
         try clear hcz24_0
         try clear hcz24_1
         try clear hcz24_2
         try clear hcz24_3
         try clear hcz24_4
         try clear hcz24_5
         try clear hcz28_0
         try clear hcz28_1
         try clear hcz28_2
         try clear hcz28_3
         try clear hcz28_4
         try clear hcz28_5
         try clear hcz30_0
         try clear hcz30_1
         try clear hcz30_10
         try clear hcz30_11
         try clear hcz30_12
         try clear hcz30_2
         try clear hcz30_3
         try clear hcz30_4
         try clear hcz30_5
         try clear hcz30_6
         try clear hcz30_7
         try clear hcz30_8
         try clear hcz30_9
         try clear hcz3_0
         try clear hcz3_1
         try clear hcz3_10
         try clear hcz3_2
         try clear hcz3_3
         try clear hcz3_4
         try clear hcz3_5
         try clear hcz3_6
         try clear hcz3_7
         try clear hcz3_8
         try clear hcz3_9
         try clear hfz10_0
         try clear hfz10_1
         try clear hfz10_2
         try clear hfz10_3
         try clear hfz10_4
         try clear hfz10_5
         try clear hfz14_0
         try clear hfz14_1
         try clear hfz14_10
         try clear hfz14_11
         try clear hfz14_12
         try clear hfz14_2
         try clear hfz14_3
         try clear hfz14_4
         try clear hfz14_5
         try clear hfz14_6
         try clear hfz14_7
         try clear hfz14_8
         try clear hfz14_9
         try clear hfz15_0
         try clear hfz15_1
         try clear hfz15_2
         try clear hfz15_3
         try clear hfz15_4
         try clear hfz15_5
         try clear hfz20_0
         try clear hfz20_1
         try clear hfz20_10
         try clear hfz20_11
         try clear hfz20_12
         try clear hfz20_2
         try clear hfz20_3
         try clear hfz20_4
         try clear hfz20_5
         try clear hfz20_6
         try clear hfz20_7
         try clear hfz20_8
         try clear hfz20_9
         try clear hfz24_0
         try clear hfz24_1
         try clear hfz24_2
         try clear hfz24_3
         try clear hfz24_4
         try clear hfz24_5
         try clear hfz28_0
         try clear hfz28_1
         try clear hfz28_2
         try clear hfz28_3
         try clear hfz28_4
         try clear hfz28_5
         try clear hfz30_0
         try clear hfz30_1
         try clear hfz30_10
         try clear hfz30_11
         try clear hfz30_12
         try clear hfz30_2
         try clear hfz30_3
         try clear hfz30_4
         try clear hfz30_5
         try clear hfz30_6
         try clear hfz30_7
         try clear hfz30_8
         try clear hfz30_9
         try clear hfz3_0
         try clear hfz3_1
         try clear hfz3_10
         try clear hfz3_2
         try clear hfz3_3
         try clear hfz3_4
         try clear hfz3_5
         try clear hfz3_6
         try clear hfz3_7
         try clear hfz3_8
         try clear hfz3_9
         try clear hx334_0
         try clear hx334_1
         try clear hx334_2
         try clear hx334_3
         try clear hx334_4
         try clear hx334_5
         try clear p2
         try clear p3
         try clear p334
         try clear q1
         try clear q16
         try clear q3
         try clear q334
         obtain ⟨kq, x337012_20, HA, HJ20, HO_3, BK333, BK335, BK336, HB⟩ := hcut
         cases kq with
         | zero => exact absurd HA.out (by simp [canon_rules.j2])
         | succ kj20 =>
          have H := HA.out
          clear HA
          simp only [canon_rules.j2] at H
          have H' := Aside0.mk H
          clear H
          have hnb31 := NB335_333.out
          have hnc31 := NB333_335.out
          have hnb32 := NB335_336.out
          have hnc32 := NB336_335.out
          have hcz33_0 : wc.cell? ⟨gb335, 0, none⟩ = some (.bool ((rd_T51 l0_9 x12_1).f0)) := (blk_cell BK335.out 0).trans rfl
          have hcz33_1 : wc.cell? ⟨gb335, 1, none⟩ = some (.string ((rd_T51 l0_9 x12_1).f1)) := (blk_cell BK335.out 1).trans rfl
          have hcz33_2 : wc.cell? ⟨gb335, 2, none⟩ = some (.string ((rd_T51 l0_9 x12_1).f2)) := (blk_cell BK335.out 2).trans rfl
          have hcz33_3 : wc.cell? ⟨gb335, 3, none⟩ = some (.slice A334_3 ((rd_T51 l0_9 x12_1).f3).length c334_3) := (blk_cell BK335.out 3).trans rfl
          have hcz33_4 : wc.cell? ⟨gb335, 4, none⟩ = some (.int .i8 ((rd_T51 l0_9 x12_1).f4)) := (blk_cell BK335.out 4).trans rfl
          have hcz33_5 : wc.cell? ⟨gb335, 5, none⟩ = some (.float .f64 ((rd_T51 l0_9 x12_1).f5)) := (blk_cell BK335.out 5).trans rfl
          have hfz33_0 := blk_frozen BK335.out 0
          have hfz33_1 := blk_frozen BK335.out 1
          have hfz33_2 := blk_frozen BK335.out 2
          have hfz33_3 := blk_frozen BK335.out 3
          have hfz33_4 := blk_frozen BK335.out 4
          have hfz33_5 := blk_frozen BK335.out 5
          go_wp2
          go_loopg [41] kj20 (fun kq v41 w' => ∃ (x41_4 : Int) (x337009_4 : List (S44)) (u337009 : Value), v41 = .int .i64 x41_4 ∧ Aside0 (canon_rules.l1 kq x3_1 l0_9 (l0_9.length : Int) x12_1 ((rd_T51 l0_9 x12_1).f3) (((rd_T51 l0_9 x12_1).f3).length : Int) x41_4 x337000_6 0 0 ((rd_T51 l0_9 x12_1).f1) 0 0 ((rd_T51 l0_9 x12_1).f2) 0 0 x337009_4 ((((rd_T51 l0_9 x12_1).f3).length : Int) == 0) ((rd_T51 l0_9 x12_1).f4) x337012_20 = some r) ∧ Aside0 (kq ≤ kj20) ∧ Aside0 (Kd.S k47 47 w' w.heap.size (fun k_ => some k_ ≠ (u337009 : Value).ownBlock ∧ k_ ≠ gb336) u3 x3_1) ∧ Aside0 (Kd.R k44 44 w' w.heap.size (fun _ => True) u337009 x337009_4) ∧ Aside0 (w'.heap[gb333]? = some (.cells #[(.slice A0_0 l0_0.length c0_0), (.slice A0_1 l0_1.length c0_1), (.slice A0_2 l0_2.length c0_2), (.slice A0_3 l0_3.length c0_3), (.slice A0_4 l0_4.length c0_4), (.slice A0_5 l0_5.length c0_5), (.slice A0_6 l0_6.length c0_6), (.slice A0_7 l0_7.length c0_7), (.slice A0_8 l0_8.length c0_8), (.slice (some ad334) l0_9.length c0_9), (.slice A0_10 l0_10.length c0_10)] 28 (0, 0))) ∧ Aside0 (w'.heap[gb335]? = some (.cells #[.bool ((rd_T51 l0_9 x12_1).f0), .string ((rd_T51 l0_9 x12_1).f1), .string ((rd_T51 l0_9 x12_1).f2), (.slice A334_3 ((rd_T51 l0_9 x12_1).f3).length c334_3), .int .i8 ((rd_T51 l0_9 x12_1).f4), .float .f64 ((rd_T51 l0_9 x12_1).f5)] 51 (0, 0))) ∧ Aside0 (w'.heap[gb336]? = some (.cells #[.int .i8 x337000_6, .int .i64 0, .int .i64 0, .string ((rd_T51 l0_9 x12_1).f1), .int .i64 0, .int .i64 0, .string ((rd_T51 l0_9 x12_1).f2), .int .i64 0, .int .i64 0, u337009, .bool ((((rd_T51 l0_9 x12_1).f3).length : Int) == 0), .int .i8 ((rd_T51 l0_9 x12_1).f4), .float .f64 x337012_20] 47 (0, 0))) ∧ Aside0 (Below w.heap.size w w'))
          case atStart => exact ⟨(0), (([] : List (S44))), (.slice none 0 0), (by first | rfl | (simp; done) | (simp [*]; done)), H', ⟨Nat.le_refl _⟩, ⟨by (with_reducible repeat (first | apply Kd.S_alloc | apply Kd.S_drewN | apply Kd.S_drew)); exact Kd.S_mono HO_3.out (fun _ hk => ⟨(by simp [Value.ownBlock]), hk⟩)⟩, ⟨by first | exact Kd.R_nil _ _ _ _ _ | exact Kd.N_nil _ _ _ _ _ | exact Kd.V_nil _ _ _ _ _ | exact Kd.Q_nil _ _ _ _ _ | exact Kd.S_nil _ _ _ _ _⟩, ⟨by (with_reducible repeat (first | refine blk_drewN ?_ _ | refine blk_drew ?_ | refine blk_alloc ?_ _)); exact BK333.out⟩, ⟨by (with_reducible repeat (first | refine blk_drewN ?_ _ | refine blk_drew ?_ | refine blk_alloc ?_ _)); exact BK335.out⟩, ⟨by (with_reducible repeat (first | refine blk_drewN ?_ _ | refine blk_drew ?_ | refine blk_alloc ?_ _)); exact BK336.out⟩, ⟨by repeat (first | (with_reducible first | exact HB.out | apply below_alloc | apply pw_below_drewN | apply below_drew1 | refine below_set ?_ GE333.out | refine below_set ?_ GE335.out | refine below_set ?_ GE336.out) | exact HB.out)⟩⟩
          case round =>
           clear H'
           try clear c1
           try clear q1
           try clear c2
           try clear p2
           try clear c3
           try clear p3
           try clear q3
           try clear hx3
           try clear c4
           try clear c4b0
           try clear c5
           try clear c5b0
           try clear c6
           try clear c6b0
           try clear c9
           try clear c12
           try clear c13
           try clear q16
           try clear c17
           try clear c18
           try clear c19
           try clear c22
           try clear c23
           try clear c25
           try clear c25b0
           try clear c25b1
           try clear c26
           try clear c27
           try clear c29
           try clear c31
           try clear c32
           try clear c33
           try clear p33
           try clear q33
           try clear hx33
           try clear hcz10_0
           try clear hcz10_1
           try clear hcz10_2
           try clear hcz10_3
           try clear hcz10_4
           try clear hcz10_5
           try clear hcz14_0
           try clear hcz14_1
           try clear hcz14_10
           try clear hcz14_11
           try clear hcz14_12
           try clear hcz14_2
           try clear hcz14_3
           try clear hcz14_4
           try clear hcz14_5
           try clear hcz14_6
           try clear hcz14_7
           try clear hcz14_8
           try clear hcz14_9
           try clear hcz15_0
           try clear hcz15_1
           try clear hcz15_2
           try clear hcz15_3
           try clear hcz15_4
           try clear hcz15_5
           try clear hcz20_0
           try clear hcz20_1
           try clear hcz20_10
           try clear hcz20_11
           try clear hcz20_12
           try clear hcz20_2
           try clear hcz20_3
           try clear hcz20_4
           try clear hcz20_5
           try clear hcz20_6
           try clear hcz20_7
           try clear hcz20_8
           try clear hcz20_9
           try clear hcz24_0
           try clear hcz24_1
           try clear hcz24_2
           try clear hcz24_3
           try clear hcz24_4
           try clear hcz24_5
           try clear hcz28_0
           try clear hcz28_1
           try clear hcz28_2
           try clear hcz28_3
           try clear hcz28_4
           try clear hcz28_5
           try clear hcz30_0
           try clear hcz30_1
           try clear hcz30_10
           try clear hcz30_11
           try clear hcz30_12
           try clear hcz30_2
           try clear hcz30_3
           try clear hcz30_4
           try clear hcz30_5
           try clear hcz30_6
           try clear hcz30_7
           try clear hcz30_8
           try clear hcz30_9
           try clear hcz33_0
           try clear hcz33_1
           try clear hcz33_2
           try clear hcz33_3
           try clear hcz33_4
           try clear hcz33_5
           try clear hcz3_0
           try clear hcz3_1
           try clear hcz3_10
           try clear hcz3_2
           try clear hcz3_3
           try clear hcz3_4
           try clear hcz3_5
           try clear hcz3_6
           try clear hcz3_7
           try clear hcz3_8
           try clear hcz3_9
           try clear hfz10_0
           try clear hfz10_1
           try clear hfz10_2
           try clear hfz10_3
           try clear hfz10_4
           try clear hfz10_5
           try clear hfz14_0
           try clear hfz14_1
           try clear hfz14_10
           try clear hfz14_11
           try clear hfz14_12
           try clear hfz14_2
           try clear hfz14_3
           try clear hfz14_4
           try clear hfz14_5
           try clear hfz14_6
           try clear hfz14_7
           try clear hfz14_8
           try clear hfz14_9
           try clear hfz15_0
           try clear hfz15_1
           try clear hfz15_2
           try clear hfz15_3
           try clear hfz15_4
           try clear hfz15_5
           try clear hfz20_0
           try clear hfz20_1
           try clear hfz20_10
           try clear hfz20_11
           try clear hfz20_12
           try clear hfz20_2
           try clear hfz20_3
           try clear hfz20_4
           try clear hfz20_5
           try clear hfz20_6
           try clear hfz20_7
           try clear hfz20_8
           try clear hfz20_9
           try clear hfz24_0
           try clear hfz24_1
           try clear hfz24_2
           try clear hfz24_3
           try clear hfz24_4
           try clear hfz24_5
           try clear hfz28_0
           try clear hfz28_1
           try clear hfz28_2
           try clear hfz28_3
           try clear hfz28_4
           try clear hfz28_5
           try clear hfz30_0
           try clear hfz30_1
           try clear hfz30_10
           try clear hfz30_11
           try clear hfz30_12
           try clear hfz30_2
           try clear hfz30_3
           try clear hfz30_4
           try clear hfz30_5
           try clear hfz30_6
           try clear hfz30_7
           try clear hfz30_8
           try clear hfz30_9
           try clear hfz33_0
           try clear hfz33_1
           try clear hfz33_2
           try clear hfz33_3
           try clear hfz33_4
           try clear hfz33_5
           try clear hfz3_0
           try clear hfz3_1
           try clear hfz3_10
           try clear hfz3_2
           try clear hfz3_3
           try clear hfz3_4
           try clear hfz3_5
           try clear hfz3_6
           try clear hfz3_7
           try clear hfz3_8
           try clear hfz3_9
           try clear hx334_0
           try clear hx334_1
           try clear hx334_2
           try clear hx334_3
           try clear hx334_4
           try clear hx334_5
           try clear p2
           try clear p3
           try clear p334
           try clear q1
           try clear q16
           try clear q3
           try clear q334
           obtain ⟨x41_4, x337009_4, u337009, rfl, HA, HK4, HO_3, HO_337009, BK333, BK335, BK336, HB⟩ := hrel
           cases gk with
           | zero => exact absurd HA.out (by simp [canon_rules.l1])
           | succ k4 =>
            have H := HA.out
            clear HA
            simp only [canon_rules.l1] at H
            by_cases c34 : x41_4 < (((rd_T51 l0_9 x12_1).f3).length : Int)
            ·rw [if_pos c34] at H
             have c34b0 : decide (x41_4 < (((rd_T51 l0_9 x12_1).f3).length : Int)) = true := decide_eq_true c34
             clear c34
             by_cases c35 : 0 ≤ x41_4
             ·rw [if_pos c35] at H
              have c35b0 : decide (0 ≤ x41_4) = true := decide_eq_true c35
              clear c35
              by_cases c36 : x41_4 < (((rd_T51 l0_9 x12_1).f3).length : Int)
              ·rw [if_pos c36] at H
               have c36b0 : decide (x41_4 < (((rd_T51 l0_9 x12_1).f3).length : Int)) = true := decide_eq_true c36
               clear c36
               by_cases c37 : x337009_4.length < 4398046511104
               ·rw [if_pos c37] at H
                have LMc37 := Aside0.mk c37
                clear c37
                obtain ⟨y338, hy338⟩ : ∃ y_ : List (S44), y_ = (x337009_4 ++ [(⟨rdOf ByteArray.empty ((rd_T51 l0_9 x12_1).f3) x41_4, 0, 0⟩ : S44)]) := ⟨_, rfl⟩
                replace H : (canon_rules.l1 k4 x3_1 l0_9 (l0_9.length : Int) x12_1 ((rd_T51 l0_9 x12_1).f3) (((rd_T51 l0_9 x12_1).f3).length : Int) (wrap64 (x41_4 + 1)) x337000_6 0 0 ((rd_T51 l0_9 x12_1).f1) 0 0 ((rd_T51 l0_9 x12_1).f2) 0 0 y338 ((((rd_T51 l0_9 x12_1).f3).length : Int) == 0) ((rd_T51 l0_9 x12_1).f4) x337012_20) = some r := by first | (rw [hy338]; with_reducible exact H) | (have H2_ := (Option.bind_some _ _).symm.trans H; rw [hy338]; with_reducible exact H2_) | (have H2_ := (Option.bind_some _ _).symm.trans H; with_reducible exact H2_) | with_reducible exact H | (rw [hy338]; exact H) | exact H
                have Ny338 := Aside0.mk hy338
                clear hy338
                have H' := Aside0.mk H
                clear H
                have p337 : 0 ≤ (x41_4 : Int) := of_decide_eq_true (by first | (with_reducible assumption) | assumption)
                have q337 : x41_4 < (((rd_T51 l0_9 x12_1).f3).length : Int) := of_decide_eq_true (by first | (with_reducible assumption) | assumption)
                obtain ⟨ad337, e337, hx337_0⟩ := Kd.at_string HR334_3.out x41_4 p337 q337
                cases e337
                replace hx337_0 := (HB.out.cell (World.block_lt_of_cell? w _ hx337_0)).trans hx337_0
                replace p337 := eq_true p337
                replace q337 := eq_true q337
                have hnb38 := NB336_333.out
                have hnc38 := NB333_336.out
                have hnb39 := NB336_335.out
                have hnc39 := NB335_336.out
                have hcz40_0 : wr.cell? ⟨gb336, 0, none⟩ = some (.int .i8 x337000_6) := (blk_cell BK336.out 0).trans rfl
                have hcz40_1 : wr.cell? ⟨gb336, 1, none⟩ = some (.int .i64 0) := (blk_cell BK336.out 1).trans rfl
                have hcz40_2 : wr.cell? ⟨gb336, 2, none⟩ = some (.int .i64 0) := (blk_cell BK336.out 2).trans rfl
                have hcz40_3 : wr.cell? ⟨gb336, 3, none⟩ = some (.string ((rd_T51 l0_9 x12_1).f1)) := (blk_cell BK336.out 3).trans rfl
                have hcz40_4 : wr.cell? ⟨gb336, 4, none⟩ = some (.int .i64 0) := (blk_cell BK336.out 4).trans rfl
                have hcz40_5 : wr.cell? ⟨gb336, 5, none⟩ = some (.int .i64 0) := (blk_cell BK336.out 5).trans rfl
                have hcz40_6 : wr.cell? ⟨gb336, 6, none⟩ = some (.string ((rd_T51 l0_9 x12_1).f2)) := (blk_cell BK336.out 6).trans rfl
                have hcz40_7 : wr.cell? ⟨gb336, 7, none⟩ = some (.int .i64 0) := (blk_cell BK336.out 7).trans rfl
                have hcz40_8 : wr.cell? ⟨gb336, 8, none⟩ = some (.int .i64 0) := (blk_cell BK336.out 8).trans rfl
                have hcz40_9 : wr.cell? ⟨gb336, 9, none⟩ = some (u337009) := (blk_cell BK336.out 9).trans rfl
                have hcz40_10 : wr.cell? ⟨gb336, 10, none⟩ = some (.bool ((((rd_T51 l0_9 x12_1).f3).length : Int) == 0)) := (blk_cell BK336.out 10).trans rfl
                have hcz40_11 : wr.cell? ⟨gb336, 11, none⟩ = some (.int .i8 ((rd_T51 l0_9 x12_1).f4)) := (blk_cell BK336.out 11).trans rfl
                have hcz40_12 : wr.cell? ⟨gb336, 12, none⟩ = some (.float .f64 x337012_20) := (blk_cell BK336.out 12).trans rfl
                have hfz40_0 := blk_frozen BK336.out 0
                have hfz40_1 := blk_frozen BK336.out 1
                have hfz40_2 := blk_frozen BK336.out 2
                have hfz40_3 := blk_frozen BK336.out 3
                have hfz40_4 := blk_frozen BK336.out 4
                have hfz40_5 := blk_frozen BK336.out 5
                have hfz40_6 := blk_frozen BK336.out 6
                have hfz40_7 := blk_frozen BK336.out 7
                have hfz40_8 := blk_frozen BK336.out 8
                have hfz40_9 := blk_frozen BK336.out 9
                have hfz40_10 := blk_frozen BK336.out 10
                have hfz40_11 := blk_frozen BK336.out 11
                have hfz40_12 := blk_frozen BK336.out 12
                go_wp2_with (first | ((with_reducible refine gate_builtin (b := .append) (xs := #[.tmp 46, .tmp 49]) rfl ?_); at_builtin; refine Kd.R_append k44 (w0 := w) w.heap.size rfl (.tmp 46) (.tmp 49) 45 44 (.agg #[(.string ⟨#[]⟩), (.int .i64 0), (.int .i64 0)]) 32 rfl Try.underlying45 info44 rfl (by decide) (by omega) u337009 x337009_4 (⟨rdOf ByteArray.empty ((rd_T51 l0_9 x12_1).f3) x41_4, 0, 0⟩ : S44) [.string (rdOf ByteArray.empty ((rd_T51 l0_9 x12_1).f3) x41_4), .int .i64 0, .int .i64 0] (fun _ => True) (fun _ => False) rfl rfl ?aP (fun _ hk => hk.elim) ?aF ?aO ?aB ?aS ?aL ?_; (case aP => exact k44_mkM _ _ _ (⟨rdOf ByteArray.empty ((rd_T51 l0_9 x12_1).f3) x41_4, 0, 0⟩ : S44)); (case aB => exact (by repeat (first | (with_reducible first | exact HB.out | apply below_alloc | apply pw_below_drewN | apply below_drew1 | refine below_set ?_ GE333.out | refine below_set ?_ GE335.out | refine below_set ?_ GE336.out) | exact HB.out))); (case aF => exact (fun _ _ => trivial)); (case aO => exact (by (with_reducible repeat (first | apply Kd.R_alloc | apply Kd.R_drewN | apply Kd.R_drew)); exact HO_337009.out)); (case aS => exact (below_size (by repeat (first | (with_reducible first | exact HB.out | apply below_alloc | apply pw_below_drewN | apply below_drew1 | refine below_set ?_ GE333.out | refine below_set ?_ GE335.out | refine below_set ?_ GE336.out) | exact HB.out)))); (case aL => have := LMc37.out; omega); intro v339 w41 ho hb hg hat; rw [← Ny338.out] at ho; have n0_ := Aside0.mk (Kd.S_after (ok := (fun k_ => k_ ≠ gb336)) (by (with_reducible repeat (first | apply Kd.S_alloc | apply Kd.S_drewN | apply Kd.S_drew)); exact Kd.S_mono HO_3.out (fun _ hk => ⟨hk.2, hk.1⟩)) hg hat); have n1_ := Aside0.mk (blk_grown (g := gb333) (o := .cells #[.slice A0_0 l0_0.length c0_0, .slice A0_1 l0_1.length c0_1, .slice A0_2 l0_2.length c0_2, .slice A0_3 l0_3.length c0_3, .slice A0_4 l0_4.length c0_4, .slice A0_5 l0_5.length c0_5, .slice A0_6 l0_6.length c0_6, .slice A0_7 l0_7.length c0_7, .slice A0_8 l0_8.length c0_8, .slice (some ad334) l0_9.length c0_9, .slice A0_10 l0_10.length c0_10] 28 (0, 0)) (by (with_reducible repeat (first | refine blk_drewN ?_ _ | refine blk_drew ?_ | refine blk_alloc ?_ _)); exact BK333.out) hg (Kd.R_ne HO_337009.out BK333.out (by decide))); have n2_ := Aside0.mk (blk_grown (g := gb335) (o := .cells #[.bool ((rd_T51 l0_9 x12_1).f0), .string ((rd_T51 l0_9 x12_1).f1), .string ((rd_T51 l0_9 x12_1).f2), .slice (some ad337) ((rd_T51 l0_9 x12_1).f3).length c334_3, .int .i8 ((rd_T51 l0_9 x12_1).f4), .float .f64 ((rd_T51 l0_9 x12_1).f5)] 51 (0, 0)) (by (with_reducible repeat (first | refine blk_drewN ?_ _ | refine blk_drew ?_ | refine blk_alloc ?_ _)); exact BK335.out) hg (Kd.R_ne HO_337009.out BK335.out (by decide))); have n3_ := Aside0.mk (blk_grown (g := gb336) (o := .cells #[.int .i8 x337000_6, .int .i64 0, .int .i64 0, .string ((rd_T51 l0_9 x12_1).f1), .int .i64 0, .int .i64 0, .string ((rd_T51 l0_9 x12_1).f2), .int .i64 0, .int .i64 0, u337009, .bool ((((rd_T51 l0_9 x12_1).f3).length : Int) == 0), .int .i8 ((rd_T51 l0_9 x12_1).f4), .float .f64 x337012_20] 47 (0, 0)) (by (with_reducible repeat (first | refine blk_drewN ?_ _ | refine blk_drew ?_ | refine blk_alloc ?_ _)); exact BK336.out) hg (Kd.R_ne HO_337009.out BK336.out (by decide))); have n4_ := Aside0.mk (hb); have n5_ := Aside0.mk (ho); clear HO_3; clear BK333; clear BK335; clear BK336; clear HB; clear HO_337009; have HO_3 := n0_; have BK333 := n1_; have BK335 := n2_; have BK336 := n3_; have HB := n4_; have HO340 := n5_; clear n0_ n1_ n2_ n3_ n4_ n5_; clear ho hb hg hat; obtain ⟨Ao42, co42, eo42⟩ := Kd.R_slice HO340.out; subst eo42; have hcz43_0 : w41.cell? ⟨gb336, 0, none⟩ = some (.int .i8 x337000_6) := (blk_cell BK336.out 0).trans rfl; have hcz43_1 : w41.cell? ⟨gb336, 1, none⟩ = some (.int .i64 0) := (blk_cell BK336.out 1).trans rfl; have hcz43_2 : w41.cell? ⟨gb336, 2, none⟩ = some (.int .i64 0) := (blk_cell BK336.out 2).trans rfl; have hcz43_3 : w41.cell? ⟨gb336, 3, none⟩ = some (.string ((rd_T51 l0_9 x12_1).f1)) := (blk_cell BK336.out 3).trans rfl; have hcz43_4 : w41.cell? ⟨gb336, 4, none⟩ = some (.int .i64 0) := (blk_cell BK336.out 4).trans rfl; have hcz43_5 : w41.cell? ⟨gb336, 5, none⟩ = some (.int .i64 0) := (blk_cell BK336.out 5).trans rfl; have hcz43_6 : w41.cell? ⟨gb336, 6, none⟩ = some (.string ((rd_T51 l0_9 x12_1).f2)) := (blk_cell BK336.out 6).trans rfl; have hcz43_7 : w41.cell? ⟨gb336, 7, none⟩ = some (.int .i64 0) := (blk_cell BK336.out 7).trans rfl; have hcz43_8 : w41.cell? ⟨gb336, 8, none⟩ = some (.int .i64 0) := (blk_cell BK336.out 8).trans rfl; have hcz43_9 : w41.cell? ⟨gb336, 9, none⟩ = some (u337009) := (blk_cell BK336.out 9).trans rfl; have hcz43_10 : w41.cell? ⟨gb336, 10, none⟩ = some (.bool ((((rd_T51 l0_9 x12_1).f3).length : Int) == 0)) := (blk_cell BK336.out 10).trans rfl; have hcz43_11 : w41.cell? ⟨gb336, 11, none⟩ = some (.int .i8 ((rd_T51 l0_9 x12_1).f4)) := (blk_cell BK336.out 11).trans rfl; have hcz43_12 : w41.cell? ⟨gb336, 12, none⟩ = some (.float .f64 x337012_20) := (blk_cell BK336.out 12).trans rfl; have hfz43_0 := blk_frozen BK336.out 0; have hfz43_1 := blk_frozen BK336.out 1; have hfz43_2 := blk_frozen BK336.out 2; have hfz43_3 := blk_frozen BK336.out 3; have hfz43_4 := blk_frozen BK336.out 4; have hfz43_5 := blk_frozen BK336.out 5; have hfz43_6 := blk_frozen BK336.out 6; have hfz43_7 := blk_frozen BK336.out 7; have hfz43_8 := blk_frozen BK336.out 8; have hfz43_9 := blk_frozen BK336.out 9; have hfz43_10 := blk_frozen BK336.out 10; have hfz43_11 := blk_frozen BK336.out 11; have hfz43_12 := blk_frozen BK336.out 12))
                go_roundg k4
                case measure => have := HK1.out; have := HJ6.out; have := HJ20.out; have := HK4.out; omega
                case rel => exact ⟨(wrap64 (x41_4 + 1)), (y338), (.slice Ao42 y338.length co42), (by first | rfl | (simp; done) | (simp [*]; done)), H', ⟨by have := HK1.out; have := HJ6.out; have := HJ20.out; have := HK4.out; omega⟩, ⟨by (with_reducible repeat (first | apply Kd.S_alloc | apply Kd.S_drewN | apply Kd.S_drew)); exact Kd.S_mono (Kd.S_far (p := ⟨gb336, 9, none⟩) (Kd.S_mono HO_3.out (fun k_ hk => (⟨hk, hk.1⟩ : _ ∧ k_ ≠ gb336))) (fun _ hk => hk.2) (.slice Ao42 y338.length co42)) (fun _ hk => ⟨hk.1.2, hk.1.1⟩)⟩, ⟨by (with_reducible repeat (first | apply Kd.R_alloc | apply Kd.R_drewN | apply Kd.R_drew)); exact Kd.R_mono (Kd.R_far (p := ⟨gb336, 9, none⟩) (Kd.R_types HO340.out BK336.out (by decide)) (fun _ hk => hk.2) (.slice Ao42 y338.length co42)) (fun _ hk => trivial)⟩, ⟨by (with_reducible repeat (first | refine blk_drewN ?_ _ | refine blk_drew ?_ | refine blk_alloc ?_ _)); refine blk_far ?_ NB333_336.out _; (with_reducible repeat (first | refine blk_drewN ?_ _ | refine blk_drew ?_ | refine blk_alloc ?_ _)); exact BK333.out⟩, ⟨by (with_reducible repeat (first | refine blk_drewN ?_ _ | refine blk_drew ?_ | refine blk_alloc ?_ _)); refine blk_far ?_ NB335_336.out _; (with_reducible repeat (first | refine blk_drewN ?_ _ | refine blk_drew ?_ | refine blk_alloc ?_ _)); exact BK335.out⟩, ⟨by (with_reducible repeat (first | refine blk_drewN ?_ _ | refine blk_drew ?_ | refine blk_alloc ?_ _)); refine blk_put (cs := #[.int .i8 x337000_6, .int .i64 0, .int .i64 0, .string ((rd_T51 l0_9 x12_1).f1), .int .i64 0, .int .i64 0, .string ((rd_T51 l0_9 x12_1).f2), .int .i64 0, .int .i64 0, u337009, .bool ((((rd_T51 l0_9 x12_1).f3).length : Int) == 0), .int .i8 ((rd_T51 l0_9 x12_1).f4), .float .f64 x337012_20]) ?_ 9 _ rfl; (with_reducible repeat (first | refine blk_drewN ?_ _ | refine blk_drew ?_ | refine blk_alloc ?_ _)); exact BK336.out⟩, ⟨by repeat (first | (with_reducible first | exact HB.out | apply below_alloc | apply pw_below_drewN | apply below_drew1 | refine below_set ?_ GE333.out | refine below_set ?_ GE335.out | refine below_set ?_ GE336.out) | exact HB.out)⟩⟩
               ·rw [if_neg c37] at H
                exact absurd H (by simp)
              ·rw [if_neg c36] at H
               exact absurd H (by simp)
             ·rw [if_neg c35] at H
              exact absurd H (by simp)
            ·rw [if_neg c34] at H
             have c34b0 : decide (x41_4 < (((rd_T51 l0_9 x12_1).f3).length : Int)) = false := decide_eq_false c34
             clear c34
             by_cases c44 : x3_1.length < 1099511627776
             ·rw [if_pos c44] at H
              have LMc44 := Aside0.mk c44
              clear c44
              obtain ⟨y341, hy341⟩ : ∃ y_ : List (S47), y_ = (x3_1 ++ [(⟨x337000_6, 0, 0, (⟨((rd_T51 l0_9 x12_1).f1), 0, 0⟩ : S44), (⟨((rd_T51 l0_9 x12_1).f2), 0, 0⟩ : S44), x337009_4, ((((rd_T51 l0_9 x12_1).f3).length : Int) == 0), ((rd_T51 l0_9 x12_1).f4), x337012_20⟩ : S47)]) := ⟨_, rfl⟩
              replace H : (canon_rules.l0 k4 y341 l0_9 (l0_9.length : Int) (wrap64 (x12_1 + 1))) = some r := by first | (rw [hy341]; with_reducible exact H) | (have H2_ := (Option.bind_some _ _).symm.trans H; rw [hy341]; with_reducible exact H2_) | (have H2_ := (Option.bind_some _ _).symm.trans H; with_reducible exact H2_) | with_reducible exact H | (rw [hy341]; exact H) | exact H
              have Ny341 := Aside0.mk hy341
              clear hy341
              have H' := Aside0.mk H
              clear H
              have hnb45 := NB336_333.out
              have hnc45 := NB333_336.out
              have hnb46 := NB336_335.out
              have hnc46 := NB335_336.out
              have hcz47_0 : wr.cell? ⟨gb336, 0, none⟩ = some (.int .i8 x337000_6) := (blk_cell BK336.out 0).trans rfl
              have hcz47_1 : wr.cell? ⟨gb336, 1, none⟩ = some (.int .i64 0) := (blk_cell BK336.out 1).trans rfl
              have hcz47_2 : wr.cell? ⟨gb336, 2, none⟩ = some (.int .i64 0) := (blk_cell BK336.out 2).trans rfl
              have hcz47_3 : wr.cell? ⟨gb336, 3, none⟩ = some (.string ((rd_T51 l0_9 x12_1).f1)) := (blk_cell BK336.out 3).trans rfl
              have hcz47_4 : wr.cell? ⟨gb336, 4, none⟩ = some (.int .i64 0) := (blk_cell BK336.out 4).trans rfl
              have hcz47_5 : wr.cell? ⟨gb336, 5, none⟩ = some (.int .i64 0) := (blk_cell BK336.out 5).trans rfl
              have hcz47_6 : wr.cell? ⟨gb336, 6, none⟩ = some (.string ((rd_T51 l0_9 x12_1).f2)) := (blk_cell BK336.out 6).trans rfl
              have hcz47_7 : wr.cell? ⟨gb336, 7, none⟩ = some (.int .i64 0) := (blk_cell BK336.out 7).trans rfl
              have hcz47_8 : wr.cell? ⟨gb336, 8, none⟩ = some (.int .i64 0) := (blk_cell BK336.out 8).trans rfl
              have hcz47_9 : wr.cell? ⟨gb336, 9, none⟩ = some (u337009) := (blk_cell BK336.out 9).trans rfl
              have hcz47_10 : wr.cell? ⟨gb336, 10, none⟩ = some (.bool ((((rd_T51 l0_9 x12_1).f3).length : Int) == 0)) := (blk_cell BK336.out 10).trans rfl
              have hcz47_11 : wr.cell? ⟨gb336, 11, none⟩ = some (.int .i8 ((rd_T51 l0_9 x12_1).f4)) := (blk_cell BK336.out 11).trans rfl
              have hcz47_12 : wr.cell? ⟨gb336, 12, none⟩ = some (.float .f64 x337012_20) := (blk_cell BK336.out 12).trans rfl
              have hfz47_0 := blk_frozen BK336.out 0
              have hfz47_1 := blk_frozen BK336.out 1
              have hfz47_2 := blk_frozen BK336.out 2
              have hfz47_3 := blk_frozen BK336.out 3
              have hfz47_4 := blk_frozen BK336.out 4
              have hfz47_5 := blk_frozen BK336.out 5
              have hfz47_6 := blk_frozen BK336.out 6
              have hfz47_7 := blk_frozen BK336.out 7
              have hfz47_8 := blk_frozen BK336.out 8
              have hfz47_9 := blk_frozen BK336.out 9
              have hfz47_10 := blk_frozen BK336.out 10
              have hfz47_11 := blk_frozen BK336.out 11
              have hfz47_12 := blk_frozen BK336.out 12
              obtain ⟨Ao49, co49, eo49⟩ := Kd.R_slice HO_337009.out
              subst eo49
              go_wp2_with (first | ((with_reducible refine gate_builtin (b := .append) (xs := #[.tmp 53, .tmp 55]) rfl ?_); at_builtin; refine Kd.S_append k47 (w0 := w) w.heap.size rfl (.tmp 53) (.tmp 55) 29 47 (.agg #[(.int .i8 0), (.int .i64 0), (.int .i64 0), (.string ⟨#[]⟩), (.int .i64 0), (.int .i64 0), (.string ⟨#[]⟩), (.int .i64 0), (.int .i64 0), (.slice none 0 0), (.bool false), (.int .i8 0), (.float .f64 0)]) 128 rfl Try.underlying29 info47 rfl (by decide) (by omega) u3 x3_1 (⟨x337000_6, 0, 0, (⟨((rd_T51 l0_9 x12_1).f1), 0, 0⟩ : S44), (⟨((rd_T51 l0_9 x12_1).f2), 0, 0⟩ : S44), x337009_4, ((((rd_T51 l0_9 x12_1).f3).length : Int) == 0), ((rd_T51 l0_9 x12_1).f4), x337012_20⟩ : S47) [.int .i8 x337000_6, .int .i64 0, .int .i64 0, .string ((rd_T51 l0_9 x12_1).f1), .int .i64 0, .int .i64 0, .string ((rd_T51 l0_9 x12_1).f2), .int .i64 0, .int .i64 0, .slice Ao49 x337009_4.length co49, .bool ((((rd_T51 l0_9 x12_1).f3).length : Int) == 0), .int .i8 ((rd_T51 l0_9 x12_1).f4), .float .f64 x337012_20] (fun k_ => k_ ≠ gb336) (fun k_ => some k_ = (.slice Ao49 x337009_4.length co49 : Value).ownBlock) rfl rfl ?aP (fun k_ hk_ => ((Kd.R_mono (ok' := fun k_ => ((fun k_ => k_ ≠ gb336)) k_ ∧ some k_ ≠ (u3 : Value).ownBlock) (Kd.R_types (Kd.R_apart' (HO_337009.out) (Kd.S_typed HO_3.out) (by decide)) BK336.out (by decide)) (fun k_ hk => ⟨hk.2, hk.1.2⟩))).1 k_ hk_.symm) ?aF ?aO ?aB ?aS ?aL ?_; (case aP => exact k47_mkM _ _ _ (⟨x337000_6, 0, 0, (⟨((rd_T51 l0_9 x12_1).f1), 0, 0⟩ : S44), (⟨((rd_T51 l0_9 x12_1).f2), 0, 0⟩ : S44), x337009_4, ((((rd_T51 l0_9 x12_1).f3).length : Int) == 0), ((rd_T51 l0_9 x12_1).f4), x337012_20⟩ : S47) (Kd.R_mono (Kd.R_tight rfl (Kd.R_mono (ok' := fun k_ => ((fun k_ => k_ ≠ gb336)) k_ ∧ some k_ ≠ (u3 : Value).ownBlock) (Kd.R_types (Kd.R_apart' (HO_337009.out) (Kd.S_typed HO_3.out) (by decide)) BK336.out (by decide)) (fun k_ hk => ⟨hk.2, hk.1.2⟩))) (fun _ h_ => h_))); (case aB => exact (by repeat (first | (with_reducible first | exact HB.out | apply below_alloc | apply pw_below_drewN | apply below_drew1 | refine below_set ?_ GE333.out | refine below_set ?_ GE335.out | refine below_set ?_ GE336.out) | exact HB.out))); (case aF => exact (fun k_ hk => Kd.freshB (g := gb336) (o := .cells #[.int .i8 x337000_6, .int .i64 0, .int .i64 0, .string ((rd_T51 l0_9 x12_1).f1), .int .i64 0, .int .i64 0, .string ((rd_T51 l0_9 x12_1).f2), .int .i64 0, .int .i64 0, .slice Ao49 x337009_4.length co49, .bool ((((rd_T51 l0_9 x12_1).f3).length : Int) == 0), .int .i8 ((rd_T51 l0_9 x12_1).f4), .float .f64 x337012_20] 47 (0, 0)) (by (with_reducible repeat (first | refine blk_drewN ?_ _ | refine blk_drew ?_ | refine blk_alloc ?_ _)); exact BK336.out) k_ hk)); (case aO => exact (by (with_reducible repeat (first | apply Kd.S_alloc | apply Kd.S_drewN | apply Kd.S_drew)); exact Kd.S_mono HO_3.out (fun k_ hk => ⟨hk.2, fun e_ => hk.1 e_⟩))); (case aS => exact (below_size (by repeat (first | (with_reducible first | exact HB.out | apply below_alloc | apply pw_below_drewN | apply below_drew1 | refine below_set ?_ GE333.out | refine below_set ?_ GE335.out | refine below_set ?_ GE336.out) | exact HB.out)))); (case aL => have := LMc44.out; omega); intro v342 w48 ho hb hg hat; rw [← Ny341.out] at ho; have n0_ := Aside0.mk (blk_grown (g := gb333) (o := .cells #[.slice A0_0 l0_0.length c0_0, .slice A0_1 l0_1.length c0_1, .slice A0_2 l0_2.length c0_2, .slice A0_3 l0_3.length c0_3, .slice A0_4 l0_4.length c0_4, .slice A0_5 l0_5.length c0_5, .slice A0_6 l0_6.length c0_6, .slice A0_7 l0_7.length c0_7, .slice A0_8 l0_8.length c0_8, .slice (some ad334) l0_9.length c0_9, .slice A0_10 l0_10.length c0_10] 28 (0, 0)) (by (with_reducible repeat (first | refine blk_drewN ?_ _ | refine blk_drew ?_ | refine blk_alloc ?_ _)); exact BK333.out) hg (Kd.S_ne HO_3.out BK333.out (by decide))); have n1_ := Aside0.mk (blk_grown (g := gb335) (o := .cells #[.bool ((rd_T51 l0_9 x12_1).f0), .string ((rd_T51 l0_9 x12_1).f1), .string ((rd_T51 l0_9 x12_1).f2), .slice A334_3 ((rd_T51 l0_9 x12_1).f3).length c334_3, .int .i8 ((rd_T51 l0_9 x12_1).f4), .float .f64 ((rd_T51 l0_9 x12_1).f5)] 51 (0, 0)) (by (with_reducible repeat (first | refine blk_drewN ?_ _ | refine blk_drew ?_ | refine blk_alloc ?_ _)); exact BK335.out) hg (Kd.S_ne HO_3.out BK335.out (by decide))); have n2_ := Aside0.mk (blk_grown (g := gb336) (o := .cells #[.int .i8 x337000_6, .int .i64 0, .int .i64 0, .string ((rd_T51 l0_9 x12_1).f1), .int .i64 0, .int .i64 0, .string ((rd_T51 l0_9 x12_1).f2), .int .i64 0, .int .i64 0, .slice Ao49 x337009_4.length co49, .bool ((((rd_T51 l0_9 x12_1).f3).length : Int) == 0), .int .i8 ((rd_T51 l0_9 x12_1).f4), .float .f64 x337012_20] 47 (0, 0)) (by (with_reducible repeat (first | refine blk_drewN ?_ _ | refine blk_drew ?_ | refine blk_alloc ?_ _)); exact BK336.out) hg (Kd.S_away HO_3.out (fun _ hk => hk.2))); have n3_ := Aside0.mk (hb); have n4_ := Aside0.mk (ho); clear BK333; clear BK335; clear BK336; clear HB; clear HO_3; clear HO_337009; have BK333 := n0_; have BK335 := n1_; have BK336 := n2_; have HB := n3_; have HO343 := n4_; clear n0_ n1_ n2_ n3_ n4_; clear ho hb hg hat))
              go_roundg k4
              case measure => have := HK1.out; have := HJ6.out; have := HJ20.out; have := HK4.out; omega
              case rel => exact ⟨(y341), (wrap64 (x12_1 + 1)), (by first | rfl | (simp; done) | (simp [*]; done)), H', ⟨by have := HK1.out; have := HJ6.out; have := HJ20.out; have := HK4.out; omega⟩, ⟨by (with_reducible repeat (first | apply Kd.S_alloc | apply Kd.S_drewN | apply Kd.S_drew)); exact Kd.S_mono HO343.out (fun _ hk => trivial)⟩, ⟨by (with_reducible repeat (first | refine blk_drewN ?_ _ | refine blk_drew ?_ | refine blk_alloc ?_ _)); exact BK333.out⟩, ⟨by repeat (first | (with_reducible first | exact HB.out | apply below_alloc | apply pw_below_drewN | apply below_drew1 | refine below_set ?_ GE333.out | refine below_set ?_ GE335.out | refine below_set ?_ GE336.out) | exact HB.out)⟩⟩
             ·rw [if_neg c44] at H
              exact absurd H (by simp)
     ·rw [if_neg c6] at H
      exact absurd H (by simp)
    ·rw [if_neg c5] at H
     exact absurd H (by simp)
   ·rw [if_neg c4] at H
    have c4b0 : decide (x12_1 < (l0_9.length : Int)) = false := decide_eq_false c4
    clear c4
    obtain rfl := Option.some.inj H
    go_wp2
    go_ret
    exact ⟨_, by first | rfl | (simp [errW_none, errW_some] <;> rfl) | (simp [*, errW_none, errW_some] <;> rfl), by (with_reducible repeat (first | apply Kd.S_alloc | apply Kd.S_drewN | apply Kd.S_drew)); exact HO_3.out, by repeat (first | (with_reducible first | exact HB.out | apply below_alloc | apply pw_below_drewN | apply below_drew1 | refine below_set ?_ GE333.out) | exact HB.out)⟩
end Go.Proofs.Ytacggjhgdkkclaa.PG
