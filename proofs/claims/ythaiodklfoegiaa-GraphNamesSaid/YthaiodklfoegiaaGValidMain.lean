/- graph.Valid, walked: the main way. -/
import Derived.Test.YthaiodklfoegiaaGValid
import Derived.Test.YthaiodklfoegiaaGBlk
import Derived.Test.YthaiodklfoegiaaVPure3
import Derived.Deep.DeepCutAuto
namespace Go.Proofs.Ythaiodklfoegiaa.GValid
open Go.RowKit Go.Proofs.YthaiodklfoegiaaW.PrintWords Go.Proofs.YthaiodklfoegiaaW.PrintLast Go.Proofs.YthaiodklfoegiaaW.PrintMore Go.Proofs.Ythaiodklfoegiaa.BMap Go.Proofs.Ythaiodklfoegiaa.BRow Go.Proofs.Ythaiodklfoegiaa.GDiffer Go.Proofs.Ythaiodklfoegiaa.GBlk Go.Proofs.Ythaiodklfoegiaa.VPure Go.Maps
open Go.Proofs.Ythaiodklfoegiaa

structure St (g : G) (w wr : World) (gr gc m i j : Nat) : Prop where
  boxed : Boxed g w wr
  rows : Blk wr gr g.ms.length (partM g.ms i j)
  cols : Blk wr gc m (fun b a => partM g.ms i j a b)
  shape : ∀ a, a < i → (g.ms.getD a []).length = m ∧ ∀ x ∈ g.ms.getD a [], x < 2 ^ g.la.length
  row : ∀ b, b < j → mat g.ms i b < 2 ^ g.la.length

theorem Boxed.set {g : G} {w w1 : World} (h : Boxed g w w1) {b : Nat} (hb : w.heap.size < b) (j : Nat) (v : Value) : Boxed g w (w1.setCell ⟨b, j, none⟩ v) :=
  ⟨below_set h.below (Nat.le_of_lt hb), by rw [Below.heap_setCell _ _ _ _ (by show w.heap.size ≠ b; omega)]; exact h.box⟩
theorem St.next {g : G} {w wr : World} {gr gc m i j : Nat} (h : St g w wr gr gc m i j) (hne : gr ≠ gc) (hgr : w.heap.size < gr) (hgc : w.heap.size < gc) (hi : i < 64) (hj : j < 64) (x : Int) (hx : mat g.ms i j = x) (hlt : x < 2 ^ g.la.length) :
    St g w ((wr.setCell ⟨gr, i * 64 + j, none⟩ (.int .u16 x)).setCell ⟨gc, j * 64 + i, none⟩ (.int .u16 x)).drew gr gc m i (j + 1) where
  boxed := by
    have := (h.boxed.set hgr (i * 64 + j) (.int .u16 x)).set hgc (j * 64 + i) (.int .u16 x)
    exact ⟨this.below.drew, this.box⟩
  rows := by
    have := ((h.rows.set (i := i) hj x).far (a := ⟨gc, j * 64 + i, none⟩) (by show gr ≠ gc; exact hne) (.int .u16 x)).congr (F' := partM g.ms i (j + 1)) (fun a b _ _ => by
      subst hx; exact part_next g.ms i j a b)
    exact this
  cols := by
    have := ((h.cols.far (a := ⟨gr, i * 64 + j, none⟩) (by show gc ≠ gr; exact hne.symm) (.int .u16 x)).set (i := j) hi x).congr (F' := fun b a => partM g.ms i (j + 1) a b) (fun b a _ _ => by
      subst hx
      have := part_next g.ms i j a b
      rw [← this]
      by_cases e : a = i ∧ b = j
      · rw [if_pos e, if_pos e.symm]
      · rw [if_neg e, if_neg (fun k => e k.symm)])
    exact this
  shape := h.shape
  row := fun b hb => by
    by_cases e : b = j
    · subst e; rw [hx]; exact hlt
    · exact h.row b (by omega)
theorem St.nextRow {g : G} {w wr : World} {gr gc m i : Nat} (h : St g w wr gr gc m i m) (hm : (g.ms.getD i []).length = m) : St g w wr gr gc m (i + 1) 0 where
  boxed := h.boxed
  rows := h.rows.congr fun a b _ _ => part_row g.ms i m a b hm
  cols := h.cols.congr fun b a _ _ => part_row g.ms i m a b hm
  shape := fun a ha => by
    by_cases e : a = i
    · subst e
      refine ⟨hm, fun x hx => ?_⟩
      obtain ⟨b, hb, rfl⟩ := List.getElem_of_mem hx
      have := h.row b (by omega)
      unfold mat at this
      have e : (g.ms.getD a []).getD b 0 = (g.ms.getD a [])[b] := by rw [List.getD_eq_getElem?_getD, List.getElem?_eq_getElem hb, Option.getD_some]
      rw [e] at this
      exact this
    · exact h.shape a (by omega)
  row := fun b hb => by omega
theorem madeBlk (w : World) (n : Nat) : Blk (w.alloc (made n)) w.heap.size n (fun _ _ => 0) := Blk.made w n _ rfl
theorem Boxed.lt {g : G} {w w1 : World} (h : Boxed g w w1) : w.heap.size < w1.heap.size := (Array.getElem?_eq_some_iff.1 h.box).1
theorem St.made1 {g : G} {w w2 : World} (h : Boxed g w w2) (m : Nat) : St g w ((w2.alloc (made g.ms.length)).alloc (made m)).drew w2.heap.size (w2.heap.size + 1) m 0 0 where
  boxed := h.go ((((Below.refl _ _).alloc (Nat.le_refl _) _).alloc (by simp) _).drew)
  rows := ((madeBlk w2 g.ms.length).below ((Below.refl _ _).alloc (Nat.le_refl _) _).drew).congr fun a b _ _ => (part_zero g.ms a b).symm
  cols := by
    have := madeBlk (w2.alloc (made g.ms.length)) m
    rw [World.size_alloc] at this
    exact Blk.congr this.drew fun b a _ _ => (part_zero g.ms a b).symm
  shape := fun a ha => by omega
  row := fun b hb => by omega
theorem St.made2 {g : G} {w w2 : World} (h : Boxed g w w2) (m : Nat) : St g w ((w2.alloc (made m)).alloc (made g.ms.length)).drew (w2.heap.size + 1) w2.heap.size m 0 0 where
  boxed := h.go ((((Below.refl _ _).alloc (Nat.le_refl _) _).alloc (by simp) _).drew)
  cols := ((madeBlk w2 m).below ((Below.refl _ _).alloc (Nat.le_refl _) _).drew).congr fun b a _ _ => (part_zero g.ms a b).symm
  rows := by
    have := madeBlk (w2.alloc (made m)) g.ms.length
    rw [World.size_alloc] at this
    exact Blk.congr this.drew fun a b _ _ => (part_zero g.ms a b).symm
  shape := fun a ha => by omega
  row := fun b hb => by omega
theorem differ_to (A : Option Addr) (c : Nat) (ls : List (List Int)) (w : World) (n : Nat) (r : Bool) (hr : (open Classical in decide ls.Nodup) = r) (hn : ls.length = n) (hC : kLine.C w A n ls) (hok : ∀ l ∈ ls, lineOk l) :
    Calls Try.prog 35 #[.slice A n c] w fun e w' => e = .returned (.bool r) ∧ Below w.heap.size w w' := by
  subst hn; subst hr; exact differ_calls A c ls w hC hok
set_option maxHeartbeats 4000000 in
set_option maxRecDepth 100000 in
theorem valid4 (A0 : Option Addr) (c0 : Nat) (la : List ByteArray) (A1 : Option Addr) (c1 : Nat) (ls : List ByteArray) (A2 : Option Addr) (c2 : Nat) (lo : List ByteArray) (A3 : Option Addr) (c3 : Nat) (of : List Int) (A4 : Option Addr) (c4 : Nat) (on : List Int) (A5 : Option Addr) (c5 : Nat) (ms : List (List Int)) (w : World)
    (hg : (G.mk A0 c0 la A1 c1 ls A2 c2 lo A3 c3 of A4 c4 on A5 c5 ms).In w) (h0 : la.length ≤ 16) (h1 : ls.length ≤ 64) (h2 : lo.length ≤ 64) (b0 : onceB la = true) (b1 : onceB ls = true) (b2 : onceB lo = true) (hof : of.length = ls.length) (hon : on.length = lo.length)
    (m : Nat) (t3 : told (great 0 of) = ((ms.length : Int), true)) (t4 : told (great 0 on) = ((m : Int), true)) (hn64 : ms.length ≤ 64) (hm64 : m ≤ 64) :
    Calls Try.prog 12 #[(G.mk A0 c0 la A1 c1 ls A2 c2 lo A3 c3 of A4 c4 on A5 c5 ms).val] w fun e w' => e = .returned (.bool (validB la ls lo of on ms)) ∧ Below w.heap.size w w' := by
  unfold G.val
  have HG := Aside0.mk hg
  have B0 := Aside0.mk b0
  have B1 := Aside0.mk b1
  have B2 := Aside0.mk b2
  have HO3 := Aside0.mk hof
  have HO4 := Aside0.mk hon
  have T3 := Aside0.mk t3
  have T4 := Aside0.mk t4
  clear hg b0 b1 b2 t3 t4
  have hmk := make_lines ms.length hn64
  have hmk' := make_lines m hm64
  go_enter Try.func12, Try.ntmps12
  go_upto_region 9 with (first | (go_at_call 33; (with_reducible refine (once_go A0 c0 la _ true B0.out ?s1 HG.out.l0).mono ?_); (case s1 => repeat (first | exact HG.out.h0 | (with_reducible refine Kd.C_alloc ?_ _) | (with_reducible refine Kd.C_drewN ?_ _) | (with_reducible refine Kd.C_drew ?_))); rintro e w' ⟨rfl, ⟨nd, rfl⟩⟩) | (go_at_call 33; (with_reducible refine (once_go A1 c1 ls _ true B1.out ?s1 HG.out.l1).mono ?_); (case s1 => repeat (first | exact HG.out.h1 | (with_reducible refine Kd.C_alloc ?_ _) | (with_reducible refine Kd.C_drewN ?_ _) | (with_reducible refine Kd.C_drew ?_))); rintro e w' ⟨rfl, ⟨nd, rfl⟩⟩) | (go_at_call 33; (with_reducible refine (once_go A2 c2 lo _ true B2.out ?s1 HG.out.l2).mono ?_); (case s1 => repeat (first | exact HG.out.h2 | (with_reducible refine Kd.C_alloc ?_ _) | (with_reducible refine Kd.C_drewN ?_ _) | (with_reducible refine Kd.C_drew ?_))); rintro e w' ⟨rfl, ⟨nd, rfl⟩⟩) | (go_at_call 34; (with_reducible refine (counted_to A3 c3 of _ (ms.length : Int) true _ HO3.out T3.out ?s1 HG.out.l3).mono ?_); (case s1 => first | exact (HG.out.below (Boxed.start (G.mk A0 c0 la A1 c1 ls A2 c2 lo A3 c3 of A4 c4 on A5 c5 ms) w _).below).h3 | exact (HG.out.below (Aside0.out ‹Aside0 (Boxed (G.mk A0 c0 la A1 c1 ls A2 c2 lo A3 c3 of A4 c4 on A5 c5 ms) w _)›).below).h3); rintro e w2 ⟨rfl, hb2⟩; have BX := Boxed.go (Boxed.start (G.mk A0 c0 la A1 c1 ls A2 c2 lo A3 c3 of A4 c4 on A5 c5 ms) w _) hb2; have e5 := BX.c5; have e4 := BX.c4; have e0 := BX.c0; have BX := Aside0.mk BX; clear hb2) | (go_at_call 34; (with_reducible refine (counted_to A4 c4 on _ (m : Int) true _ HO4.out T4.out ?s1 HG.out.l4).mono ?_); (case s1 => first | exact (HG.out.below (Boxed.start (G.mk A0 c0 la A1 c1 ls A2 c2 lo A3 c3 of A4 c4 on A5 c5 ms) w _).below).h4 | exact (HG.out.below (Aside0.out ‹Aside0 (Boxed (G.mk A0 c0 la A1 c1 ls A2 c2 lo A3 c3 of A4 c4 on A5 c5 ms) w _)›).below).h4); rintro e w2 ⟨rfl, hb2⟩; have BX := Boxed.go (Aside0.out ‹Aside0 (Boxed (G.mk A0 c0 la A1 c1 ls A2 c2 lo A3 c3 of A4 c4 on A5 c5 ms) w _)›) hb2; have e5 := BX.c5; have e4 := BX.c4; have e0 := BX.c0; have BX := Aside0.mk BX; clear hb2))
  go_cut [7, 8] (fun v7 v8 wx => ∃ gr gc, v7 = .slice (some ⟨gr, 0, none⟩) ms.length ms.length ∧ v8 = .slice (some ⟨gc, 0, none⟩) m m ∧ gr ≠ gc ∧ w.heap.size < gr ∧ w.heap.size < gc ∧ Aside0 (St (G.mk A0 c0 la A1 c1 ls A2 c2 lo A3 c3 of A4 c4 on A5 c5 ms) w wx gr gc m 0 0))
  case first =>
    go_region
    all_goals (go_wp2_with fail; go_meet)
    all_goals first
      | exact ⟨_, _, rfl, rfl, by omega, BX.out.lt, Nat.lt_succ_of_lt BX.out.lt, ⟨St.made1 BX.out m⟩⟩
      | exact ⟨_, _, rfl, rfl, by omega, Nat.lt_succ_of_lt BX.out.lt, BX.out.lt, ⟨St.made2 BX.out m⟩⟩
  case rest =>
    obtain ⟨gr, gc, rfl, rfl, hne, hgr, hgc, hSt⟩ := hcut
    have e5 := hSt.out.boxed.c5
    simp only [] at e5
    clear hmk hmk'
    go_wp2
    go_loopw [95] (fun v wr => ∃ i : Nat, v = .int .i64 i ∧ i ≤ ms.length ∧ Aside0 (St (G.mk A0 c0 la A1 c1 ls A2 c2 lo A3 c3 of A4 c4 on A5 c5 ms) w wr gr gc m i 0)) (fun v _ => ms.length - (intOf v).toNat)
    case atStart => exact ⟨0, rfl, Nat.zero_le _, hSt⟩
    case round =>
      obtain ⟨i, rfl, hi, hR⟩ := hrel
      by_cases hlt : i < ms.length
      · obtain ⟨ad5, Ar, cr, e5r, hxr, hlr, hCr⟩ := PG.at_L3 HG.out.h5 (i : Int) (by omega) (by simp only []; omega)
        have e5r : A5 = some ad5 := e5r
        subst e5r
        have hget : PG.rd_L3 ms (i : Int) = ms.getD i [] := by simp [PG.rd_L3]
        simp only [hget, Int.toNat_natCast] at hxr hlr hCr
        replace hxr := (hR.out.boxed.below.cell (World.block_lt_of_cell? w _ hxr)).trans hxr
        obtain ⟨L, hL⟩ : ∃ L, L = ms.getD i [] := ⟨_, rfl⟩
        rw [← hL] at hxr hlr hCr
        have HL := Aside0.mk hL
        have HCr := Aside0.mk hCr
        clear hL hget hCr
        have c0' : (i : Int) < ms.length := by omega
        by_cases hm : L.length = m
        · subst hm
          go_wp2
          go_loopw [106] (fun v wr => ∃ j : Nat, v = .int .i64 j ∧ j ≤ L.length ∧ Aside0 (St (G.mk A0 c0 la A1 c1 ls A2 c2 lo A3 c3 of A4 c4 on (some ad5) c5 ms) w wr gr gc L.length i j)) (fun v _ => L.length - (intOf v).toNat)
          case atStart => exact ⟨0, rfl, Nat.zero_le _, hR⟩
          case round =>
            obtain ⟨j, rfl, hj, hRj⟩ := hrel
            by_cases hltj : j < L.length
            · obtain ⟨adr, er, hxj⟩ := Kd.at_int HCr.out (j : Int) (by omega) (by omega)
              subst er
              simp only [Int.toNat_natCast] at hxj
              replace hxj := (hRj.out.boxed.below.cell (World.block_lt_of_cell? w _ hxj)).trans hxj
              have e5' := hRj.out.boxed.c0
              simp only [] at e5'
              have c0'' : (j : Int) < L.length := by omega
              have hu : 0 ≤ rd L (j : Int) ∧ rd L (j : Int) ≤ 65535 := by
                have := HG.out.u16 (ms.getD i []) (by simp only [List.getD_eq_getElem?_getD, List.getElem?_eq_getElem hlt, Option.getD_some]; exact List.getElem_mem hlt) (rd L (j : Int)) (by rw [← HL.out]; simp [rd, hltj])
                have h2 : IntKind.u16.min ≤ rd L (j : Int) ∧ rd L (j : Int) ≤ IntKind.u16.max := by simpa [Lit.wf] using this
                exact h2
              have hw64 : wrap64 (rd L (j : Int)) = rd L (j : Int) := by unfold wrap64; omega
              by_cases hx : rd L (j : Int) < 2 ^ la.length
              · have hq : (wrap64 (rd L (j : Int)) / 2 ^ la.length != 0) = false := by
                  rw [hw64, bne_eq_false_iff_eq]
                  exact Int.ediv_eq_zero_of_lt hu.1 hx
                have HX := Aside0.mk hx
                clear hx hu hw64
                have n1 : j < 64 := by omega
                have n2 : i < 64 := by omega
                have hc1 := hRj.out.rows.cell (i := i) (j := j) hlt n1
                have hc2 := hRj.out.cols.cell (i := j) (j := i) hltj n2
                have hf1 := hRj.out.rows.frozen (i * 64 + j)
                have hf2 := hRj.out.cols.frozen (j * 64 + i)
                go_upto_region 20 with fail
                go_region
                go_wp2
                go_roundw
                case rel => exact ⟨j + 1, by go_num, by omega, ⟨hRj.out.next hne hgr hgc n2 n1 _ (by rw [mat, ← HL.out]; simp [rd, hltj]) HX.out⟩⟩
                case measure => simp [intOf]; omega
              · have hq : (wrap64 (rd L (j : Int)) / 2 ^ la.length != 0) = true := by
                  rw [hw64, bne_iff_ne]
                  intro e
                  have hp : (0 : Int) < 2 ^ la.length := Int.pow_pos (by decide)
                  have := Int.lt_ediv_add_one_mul_self (rd L (j : Int)) hp
                  rw [e] at this
                  omega
                have HX := Aside0.mk hx
                clear hx hu hw64
                go_wp2
                go_ret
                refine ⟨?_, hRj.out.boxed.below⟩
                have hv : validB la ls lo of on ms = false := valid_shape_false la ls lo of on ms L.length T4.out i hlt ?_
                rw [hv]
                rfl
                rintro ⟨-, hh⟩
                rw [← HL.out] at hh
                exact Int.not_lt.2 HX.out (hh _ (by simp [rd, hltj]))
            · have hjj : j = L.length := by omega
              subst hjj
              go_wp2
              go_roundw
              case rel => exact ⟨i + 1, by go_num, by omega, ⟨hRj.out.nextRow (by rw [← HL.out])⟩⟩
              case measure => simp [intOf]; omega
        · have hmI : ¬ (L.length : Int) = (m : Int) := by omega
          have HM := Aside0.mk hm
          clear hm
          go_wp2
          go_ret
          refine ⟨?_, hR.out.boxed.below⟩
          have hv : validB la ls lo of on ms = false := valid_shape_false la ls lo of on ms m T4.out i hlt ?_
          rw [hv]
          rfl
          rintro ⟨hh, -⟩
          rw [← HL.out] at hh
          exact HM.out hh
      · have hii : i = ms.length := by omega
        subst hii
        have hRows := hR.out.rows.congr (F' := mat ms) (fun a b _ _ => part_all ms a b)
        have hCols := hR.out.cols.congr (F' := fun b a => mat ms a b) (fun b a _ _ => part_all ms a b)
        have hfin := valid_fin la ls lo of on ms m h0 h1 h2 B0.out B1.out B2.out HO3.out HO4.out T3.out T4.out hn64 hm64 hR.out.shape
        have hC1 := hRows.C (by simp only []; omega)
        have hC2 := hCols.C (by omega)
        have hK1 := linesOf_ok (n := ms.length) (F := mat ms) (fun a b _ _ => mat_u16 ms HG.out.u16 a b)
        have hK2 := linesOf_ok (n := m) (F := fun b a => mat ms a b) (fun b a _ _ => mat_u16 ms HG.out.u16 a b)
        have HC1 := Aside0.mk hC1
        have HC2 := Aside0.mk hC2
        have HK1 := Aside0.mk hK1
        have HK2 := Aside0.mk hK2
        have HFIN := Aside0.mk hfin
        clear hC1 hC2 hK1 hK2 hfin hRows hCols
        obtain ⟨r1, hr1⟩ : ∃ r, (open Classical in decide (linesOf ms.length (mat ms)).Nodup) = r := ⟨_, rfl⟩
        obtain ⟨r2, hr2⟩ : ∃ r, (open Classical in decide (linesOf m (fun b a => mat ms a b)).Nodup) = r := ⟨_, rfl⟩
        have R1 := Aside0.mk hr1
        have R2 := Aside0.mk hr2
        clear hr1 hr2
        cases r1 <;> go_wp2_with (first | (go_at_call 35; (with_reducible refine (differ_to (some ⟨gr, 0, none⟩) ms.length (linesOf ms.length (mat ms)) _ ms.length _ R1.out (linesOf_length _ _) HC1.out HK1.out).mono ?_); rintro e w5 ⟨rfl, hb5⟩; have HB5 := Aside0.mk hb5; clear hb5) | (go_at_call 35; (with_reducible refine (differ_to (some ⟨gc, 0, none⟩) m (linesOf m (fun b a => mat ms a b)) _ m r2 R2.out (linesOf_length _ _) ?s1 HK2.out).mono ?_); (case s1 => exact Kd.C_below HC2.out (Aside0.out ‹Aside0 (Below _ wr _)›)); rintro e w6 ⟨rfl, hb6⟩; have HB6 := Aside0.mk hb6; clear hb6))
        · go_ret
          refine ⟨?_, below_then hR.out.boxed.below hR.out.boxed.below.size HB5.out⟩
          have hv := HFIN.out
          rw [R1.out] at hv
          rw [← hv]
          rfl
        · go_ret
          refine ⟨?_, below_then (below_then hR.out.boxed.below hR.out.boxed.below.size HB5.out) (Nat.le_trans hR.out.boxed.below.size HB5.out.size) HB6.out⟩
          have hv := HFIN.out
          rw [R1.out, R2.out] at hv
          rw [← hv]
          rfl

theorem onceB_cases (l : List ByteArray) : onceB l = true ∨ onceB l = false := by cases onceB l <;> simp
open Classical in
/-- graph.Valid. -/
theorem valid_calls (g : G) (w : World) (hg : g.In w) :
    Calls Try.prog 12 #[g.val] w fun e w' => e = .returned (.bool (validB g.la g.ls g.lo g.of g.on g.ms)) ∧ Below w.heap.size w w' := by
  have hno : validB g.la g.ls g.lo g.of g.on g.ms = false → (Calls Try.prog 12 #[g.val] w fun e w' => e = .returned (.bool false) ∧ Below w.heap.size w w') → (Calls Try.prog 12 #[g.val] w fun e w' => e = .returned (.bool (validB g.la g.ls g.lo g.of g.on g.ms)) ∧ Below w.heap.size w w') := by
    intro h; rw [h]; exact id
  by_cases hc : g.la.length ≤ 16 ∧ g.ls.length ≤ 64 ∧ g.lo.length ≤ 64
  · obtain ⟨h0, h1, h2⟩ := hc
    rcases onceB_cases g.la with b0 | b0
    · rcases onceB_cases g.ls with b1 | b1
      · rcases onceB_cases g.lo with b2 | b2
        · by_cases hof : g.of.length = g.ls.length
          · by_cases hon : g.on.length = g.lo.length
            · obtain ⟨⟨tn, tok⟩, t3⟩ : ∃ p, told (great 0 g.of) = p := ⟨_, rfl⟩
              obtain ⟨⟨tm, tis⟩, t4⟩ : ∃ p, told (great 0 g.on) = p := ⟨_, rfl⟩
              cases tok with
              | false =>
                refine hno (decide_eq_false ?_) (valid3a g w hg h0 h1 h2 b0 b1 b2 hof hon tn tm false tis t3 t4 rfl)
                rintro ⟨-, -, -, -, -, -, -, -, n', m', e, -⟩
                rw [e] at t3; simp [told] at t3
              | true =>
                cases tis with
                | false =>
                  refine hno (decide_eq_false ?_) (valid3b g w hg h0 h1 h2 b0 b1 b2 hof hon tn tm true false t3 t4 rfl rfl)
                  rintro ⟨-, -, -, -, -, -, -, -, n', m', -, e, -⟩
                  rw [e] at t4; simp [told] at t4
                | true =>
                  by_cases hn : (g.ms.length : Int) = tn
                  · subst hn
                    obtain ⟨n', hn', hn2⟩ := great_nat (told_some t3)
                    obtain ⟨m', rfl, hm2⟩ := great_nat (told_some t4)
                    exact valid4 g.A0 g.c0 g.la g.A1 g.c1 g.ls g.A2 g.c2 g.lo g.A3 g.c3 g.of g.A4 g.c4 g.on g.A5 g.c5 g.ms w hg h0 h1 h2 b0 b1 b2 hof hon m' t3 t4 (by omega) (by omega)
                  · refine hno (decide_eq_false ?_) (valid3c g w hg h0 h1 h2 b0 b1 b2 hof hon tn tm true true t3 t4 rfl rfl hn)
                    rintro ⟨-, -, -, -, -, -, -, -, n', m', e, -, ⟨e2, -⟩, -⟩
                    rw [told_some t3] at e
                    have := Option.some.inj e
                    omega
            · refine hno (decide_eq_false ?_) (valid2e g w hg h0 h1 h2 b0 b1 b2 hof hon)
              rintro ⟨-, -, -, -, e, -⟩
              exact hon e
          · refine hno (decide_eq_false ?_) (valid2d g w hg h0 h1 h2 b0 b1 b2 hof)
            rintro ⟨-, -, -, e, -⟩
            exact hof e
        · refine hno (decide_eq_false ?_) (valid2c g w hg h0 h1 h2 b0 b1 b2)
          rintro ⟨-, -, -, -, -, -, -, e, -⟩
          exact absurd e (of_decide_eq_false b2)
      · refine hno (decide_eq_false ?_) (valid2b g w hg h0 h1 h2 b0 b1)
        rintro ⟨-, -, -, -, -, -, e, -⟩
        exact absurd e (of_decide_eq_false b1)
    · refine hno (decide_eq_false ?_) (valid2a g w hg h0 h1 h2 b0)
      rintro ⟨-, -, -, -, -, e, -⟩
      exact absurd e (of_decide_eq_false b0)
  · refine hno (decide_eq_false ?_) (valid1 g w hc)
    rintro ⟨h0, h1, h2, -⟩
    exact hc ⟨h0, h1, h2⟩
end Go.Proofs.Ythaiodklfoegiaa.GValid
