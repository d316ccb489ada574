/- Of this session's texts, what the row uses: PGx34, MIdx, MAllows, MRelPure, MAbout2, MRel, CMasks, CClone, CSame, DTab, VPure2, GValid, OBase, OTab. -/
import Derived.Test.YthaiodklfoegiaaZ1
import Derived.Test.YthaiodklfoegiaaZ2
import Derived.Test.YthaiodklfoegiaaZ3
import Derived.WalkSpells
import Derived.Deep.DeepCutAuto
set_option linter.unusedSimpArgs false
set_option linter.unusedVariables false
set_option maxHeartbeats 8000000
set_option maxRecDepth 100000
namespace Go.Proofs.Ythaiodklfoegiaa.PG
open YthaiodklfoegiaaF
attribute [local go_sem high] run_feq run_fne run_flt_lt run_flt_le run_flt_gt run_flt_ge
open Go.RowKit YthaiodklfoegiaaW.PrintWords YthaiodklfoegiaaW.PrintLast YthaiodklfoegiaaW.PrintMore
attribute [local go_sem] max2_int min2_int max_two min_two max_three min_three max_four min_four
def mean_once.l0 : Nat → List ByteArray → List ByteArray → Int → Int → Option (List ByteArray)
 | 0, _, _, _, _ => none
 | k + 1, x3, x6, x7, x8 => if x8 < x7 then (if 0 ≤ x8 then (if x8 < (x6.length : Int) then ((slices_Contains_string_string.f k x3 (rdOf ByteArray.empty x6 x8)).bind fun Zj => (if Zj = true then (mean_once.l0 k x3 x6 x7 (wrap64 (x8 + 1))) else (if x3.length < 8796093022208 then (mean_once.l0 k (x3 ++ [rdOf ByteArray.empty x6 x8]) x6 x7 (wrap64 (x8 + 1))) else (none)))) else (none)) else (none)) else (some x3)
def mean_once.f (k : Nat) (l0 : List ByteArray) : Option (List ByteArray) := mean_once.l0 k ([] : List ByteArray) l0 (l0.length : Int) 0
theorem mean_once.calls (k : Nat) (A0 : Option Addr) (c0 : Nat) (l0 : List ByteArray) (r : List ByteArray) (w : World) (hr0 : Kd.C Kd.string w A0 l0.length l0) (hc0 : l0.length ≤ c0) (h : mean_once.f k l0 = some r) :
  Calls Try.prog 74 #[.slice A0 l0.length c0] w fun e w' => ∃ v0_ : Value, e = .returned (v0_) ∧ Kd.R Kd.string 9 w' w.heap.size (fun _ => True) v0_ r ∧ Below w.heap.size w w' := by
 have HR0 := jA hr0
 have HC0 := jA hc0
 clear hr0 hc0
 have HB := jA (Below.refl w.heap.size w)
 have H : (mean_once.l0 k ([] : List ByteArray) l0 (l0.length : Int) 0) = some r := h
 clear h
 have H' := jA H
 clear H
 go_enter Try.func74, Try.ntmps74
 go_wp2
 go_loopg [3, 8] k (fun kq v3 v8 w' => ∃ (Zc : List ByteArray) (Za : Int), v8 = .int .i64 Za ∧ Aside0 (mean_once.l0 kq Zc l0 (l0.length : Int) Za = some r) ∧ Aside0 (kq ≤ k) ∧ Aside0 (Kd.R Kd.string 9 w' w.heap.size (fun _ => True) v3 Zc) ∧ Aside0 (Below w.heap.size w w'))
 case atStart => exact ⟨(([] : List ByteArray)), (0), (by first | rfl | (simp; done) | (simp [*]; done)), H', ⟨Nat.le_refl _⟩, ⟨by first | exact Kd.R_nil _ _ _ _ _ | exact Kd.N_nil _ _ _ _ _ | exact Kd.V_nil _ _ _ _ _ | exact Kd.Q_nil _ _ _ _ _ | exact Kd.S_nil _ _ _ _ _⟩, ⟨by repeat (first | (with_reducible first | exact HB.out | apply below_alloc | apply pw_below_drewN | apply below_drew1) | exact HB.out)⟩⟩
 case round =>
  clear H'
  obtain ⟨Zc, Za, rfl, HA, HK1, Zd, HB⟩ := hrel
  cases gk with
  | zero => exact absurd HA.out (by simp [mean_once.l0])
  | succ k1 =>
   have H := HA.out
   clear HA
   simp only [mean_once.l0] at H
   by_cases c2 : Za < (l0.length : Int)
   ·rw [if_pos c2] at H
    have c2b0 : decide (Za < (l0.length : Int)) = true := decide_eq_true c2
    clear c2
    by_cases c3 : 0 ≤ Za
    ·rw [if_pos c3] at H
     have c3b0 : decide (0 ≤ Za) = true := decide_eq_true c3
     clear c3
     by_cases c4 : Za < (l0.length : Int)
     ·rw [if_pos c4] at H
      have c4b0 : decide (Za < (l0.length : Int)) = true := decide_eq_true c4
      clear c4
      replace H := Option.bind_eq_some_iff.mp H
      obtain ⟨Zj, A50, H⟩ := H
      replace H : (if Zj = true then (mean_once.l0 k1 Zc l0 (l0.length : Int) (wrap64 (Za + 1))) else (if Zc.length < 8796093022208 then (mean_once.l0 k1 (Zc ++ [rdOf ByteArray.empty l0 Za]) l0 (l0.length : Int) (wrap64 (Za + 1))) else (none))) = some r := H
      have A5 := jA A50
      clear A50
      by_cases c6 : Zj = true
      ·subst c6
       have H1 : (mean_once.l0 k1 Zc l0 (l0.length : Int) (wrap64 (Za + 1))) = some r := by rw [if_pos rfl] at H; exact H
       clear H
       have H := H1
       clear H1
       have H' := jA H
       clear H
       have Zf : 0 ≤ (Za : Int) := of_decide_eq_true (by first | (with_reducible assumption) | assumption)
       have Zg : Za < (l0.length : Int) := of_decide_eq_true (by first | (with_reducible assumption) | assumption)
       obtain ⟨Zl, Zk, Zb⟩ := Kd.at_string HR0.out Za Zf Zg
       cases Zk
       replace Zb := (HB.out.cell (World.block_lt_of_cell? w _ Zb)).trans Zb
       replace Zf := eq_true Zf
       replace Zg := eq_true Zg
       obtain ⟨Ao7, co7, eo7⟩ := Kd.R_slice Zd.out
       subst eo7
       go_wp2_with (first | ((with_reducible refine gate_callee (f := 62) rfl ?_); refine goesL_ (some 14) rfl rfl Try.func62 (by kernel_rfl) rfl #[.slice Ao7 Zc.length co7, .string (rdOf ByteArray.empty l0 Za)] rfl (by (try simp only [List.map_toArray, List.map_cons, List.map_nil]); first | done | rfl | (simp only [List.length_drop, List.length_take]; rfl)) ?_; (with_reducible refine (slices_Contains_string_string.calls k1 _ _ Zc (rdOf ByteArray.empty l0 Za) true _ ?Zh ?Zi A5.out).mono ?_); (case Zh => repeat (first | exact (Kd.R_reads' Zd.out).2.2 | (with_reducible refine Kd.C_alloc ?_ _) | (with_reducible refine Kd.C_drewN ?_ _) | (with_reducible refine Kd.C_drew ?_))); (case Zi => exact (Kd.R_reads' Zd.out).2.1); rintro e w' ⟨rfl, ⟨nd, rfl⟩⟩; refine ⟨_, rfl, ?_⟩))
       go_roundg k1
       case measure => have := HK1.out; omega
       case rel => exact ⟨(Zc), (wrap64 (Za + 1)), (by first | rfl | (simp; done) | (simp [*]; done)), H', ⟨by have := HK1.out; omega⟩, ⟨by (with_reducible repeat (first | apply Kd.R_alloc | apply Kd.R_drewN | apply Kd.R_drew)); exact Zd.out⟩, ⟨by repeat (first | (with_reducible first | exact HB.out | apply below_alloc | apply pw_below_drewN | apply below_drew1) | exact HB.out)⟩⟩
      ·replace c6 := Bool.eq_false_iff.mpr c6
       subst c6
       have H1 : (if Zc.length < 8796093022208 then (mean_once.l0 k1 (Zc ++ [rdOf ByteArray.empty l0 Za]) l0 (l0.length : Int) (wrap64 (Za + 1))) else (none)) = some r := by rw [if_neg (show ¬ (false = true) by decide)] at H; exact H
       clear H
       have H := H1
       clear H1
       by_cases c8 : Zc.length < 8796093022208
       ·rw [if_pos c8] at H
        have Zp := jA c8
        clear c8
        obtain ⟨Zm, Ze⟩ : ∃ y_ : List ByteArray, y_ = (Zc ++ [rdOf ByteArray.empty l0 Za]) := ⟨_, rfl⟩
        replace H : (mean_once.l0 k1 Zm l0 (l0.length : Int) (wrap64 (Za + 1))) = some r := by first | (rw [Ze]; with_reducible exact H) | (have H2_ := (Option.bind_some _ _).symm.trans H; rw [Ze]; with_reducible exact H2_) | (have H2_ := (Option.bind_some _ _).symm.trans H; with_reducible exact H2_) | with_reducible exact H | (rw [Ze]; exact H) | exact H
        have Zn := jA Ze
        clear Ze
        have H' := jA H
        clear H
        have Zf : 0 ≤ (Za : Int) := of_decide_eq_true (by first | (with_reducible assumption) | assumption)
        have Zg : Za < (l0.length : Int) := of_decide_eq_true (by first | (with_reducible assumption) | assumption)
        obtain ⟨Zl, Zk, Zb⟩ := Kd.at_string HR0.out Za Zf Zg
        cases Zk
        replace Zb := (HB.out.cell (World.block_lt_of_cell? w _ Zb)).trans Zb
        replace Zf := eq_true Zf
        replace Zg := eq_true Zg
        obtain ⟨Ao9, co9, eo9⟩ := Kd.R_slice Zd.out
        subst eo9
        go_wp2_with (first | ((with_reducible refine gate_callee (f := 62) rfl ?_); refine goesL_ (some 14) rfl rfl Try.func62 (by kernel_rfl) rfl #[.slice Ao9 Zc.length co9, .string (rdOf ByteArray.empty l0 Za)] rfl (by (try simp only [List.map_toArray, List.map_cons, List.map_nil]); first | done | rfl | (simp only [List.length_drop, List.length_take]; rfl)) ?_; (with_reducible refine (slices_Contains_string_string.calls k1 _ _ Zc (rdOf ByteArray.empty l0 Za) false _ ?Zh ?Zi A5.out).mono ?_); (case Zh => repeat (first | exact (Kd.R_reads' Zd.out).2.2 | (with_reducible refine Kd.C_alloc ?_ _) | (with_reducible refine Kd.C_drewN ?_ _) | (with_reducible refine Kd.C_drew ?_))); (case Zi => exact (Kd.R_reads' Zd.out).2.1); rintro e w' ⟨rfl, ⟨nd, rfl⟩⟩; refine ⟨_, rfl, ?_⟩) | ((with_reducible refine gate_builtin (b := .append) (xs := #[.tmp 16, .tmp 18]) rfl ?_); at_builtin; refine Kd.R_append Kd.string (w0 := w) w.heap.size rfl (.tmp 16) (.tmp 18) 22 9 (.string ⟨#[]⟩) 16 rfl Try.underlying22 info9 rfl (by decide) (by omega) (.slice Ao9 Zc.length co9) Zc (rdOf ByteArray.empty l0 Za) [.string (rdOf ByteArray.empty l0 Za)] (fun _ => True) (fun _ => False) rfl rfl ?aP (fun _ hk => hk.elim) ?aF ?aO ?aB ?aS ?aL ?_; (case aP => exact rfl); (case aB => exact (by repeat (first | (with_reducible first | exact HB.out | apply below_alloc | apply pw_below_drewN | apply below_drew1) | exact HB.out))); (case aF => exact (fun _ _ => trivial)); (case aO => exact (by (with_reducible repeat (first | apply Kd.R_alloc | apply Kd.R_drewN | apply Kd.R_drew)); exact Zd.out)); (case aS => exact (below_size (by repeat (first | (with_reducible first | exact HB.out | apply below_alloc | apply pw_below_drewN | apply below_drew1) | exact HB.out)))); (case aL => have := Zp.out; omega); intro Zq w10 ho hb hg hat; rw [← Zn.out] at ho; have n0_ := jA (hb); have n1_ := jA (ho); clear HB; clear Zd; have HB := n0_; have Zo := n1_; clear n0_ n1_; clear ho hb hg hat))
        go_roundg k1
        case measure => have := HK1.out; omega
        case rel => exact ⟨(Zm), (wrap64 (Za + 1)), (by first | rfl | (simp; done) | (simp [*]; done)), H', ⟨by have := HK1.out; omega⟩, ⟨by (with_reducible repeat (first | apply Kd.R_alloc | apply Kd.R_drewN | apply Kd.R_drew)); exact Zo.out⟩, ⟨by repeat (first | (with_reducible first | exact HB.out | apply below_alloc | apply pw_below_drewN | apply below_drew1) | exact HB.out)⟩⟩
       ·rw [if_neg c8] at H
        exact absurd H (by simp)
     ·rw [if_neg c4] at H
      exact absurd H (by simp)
    ·rw [if_neg c3] at H
     exact absurd H (by simp)
   ·rw [if_neg c2] at H
    have c2b0 : decide (Za < (l0.length : Int)) = false := decide_eq_false c2
    clear c2
    obtain rfl := Option.some.inj H
    go_wp2
    go_ret
    exact ⟨_, by first | rfl | (simp [errW_none, errW_some] <;> rfl) | (simp [*, errW_none, errW_some] <;> rfl), by (with_reducible repeat (first | apply Kd.R_alloc | apply Kd.R_drewN | apply Kd.R_drew)); exact Zd.out, by repeat (first | (with_reducible first | exact HB.out | apply below_alloc | apply pw_below_drewN | apply below_drew1) | exact HB.out)⟩
end Go.Proofs.Ythaiodklfoegiaa.PG
/- slices.IndexFunc of the subjects; mean.once. -/
namespace Go.Proofs.Ythaiodklfoegiaa.MPol
open Go.RowKit YthaiodklfoegiaaW.PrintWords YthaiodklfoegiaaW.PrintLast YthaiodklfoegiaaW.PrintMore BMap BRow MLines MPut MClose MConcat MStand MSide Go.Maps
open PG YthaiodklfoegiaaF
theorem same_calls (n : ByteArray) (f g : Nat) (s : ByteArray) (w : World) (h : w.cell? ⟨g, 0, none⟩ = some (.string s)) (q : Bool) (hq : decide (n = s) = q) :
  Calls Try.prog 73 #[.agg #[.string n, .float .f64 f], .pointer (some ⟨g, 0, none⟩)] w fun e w' => e = .returned (.bool q) ∧ Below w.heap.size w w' := by
 have hb := beq_str n s
 rw [hq] at hb
 have h2 : (w.alloc (.cells #[.string n, .float .f64 f] 54)).cell? ⟨g, 0, none⟩ = some (.string s) := pw_cell_below (below_alloc (Below.refl _ _) _) h
 clear hq h
 go_enter Try.func73, Try.ntmps73
 go_wp2
 go_ret
 refine ⟨?_, below_alloc (Below.refl _ _) _⟩
 first | rfl | (rw [← hb]; rfl)
theorem index_calls (A : Option Addr) (c : Nat) (l : List S54) (g : Nat) (s : ByteArray) (w : World) (hC : Kd.C k54 w A l.length l) (hg : w.cell? ⟨g, 0, none⟩ = some (.string s)) (i : Nat) (hi : i < l.length) (he : l[i].f0 = s) :
  Calls Try.prog 72 #[.slice A l.length c, .func (.func 73) #[] #[.pointer (some ⟨g, 0, none⟩)]] w fun e w' => ∃ j : Nat, e = .returned (.int .i64 j) ∧ j ≤ i ∧ (∃ h : j < l.length, l[j].f0 = s) ∧ (∀ x ∈ l.take j, x.f0 ≠ s) ∧ Below w.heap.size w w' := by
 have hmax : l.length ≤ 9223372036854775807 := hC.2.1
 have HC := jA hC
 have HG := jA hg
 have HE := jA he
 have HI := jA hi
 clear hC hg he
 go_enter Try.func72, Try.ntmps72
 go_wp2
 go_loopw [8] (fun u wr => ∃ k : Nat, k ≤ i ∧ u = .int .i64 k ∧ Aside0 (Below w.heap.size w wr) ∧ Aside0 (∀ x ∈ l.take k, x.f0 ≠ s)) (fun u _ => l.length - (intOf u).toNat)
 case atStart => exact ⟨0, Nat.zero_le _, rfl, ⟨Below.refl _ _⟩, ⟨by simp⟩⟩
 case round =>
  obtain ⟨k, hk, rfl, HB, HN⟩ := hrel
  have hlt : k < l.length := Nat.lt_of_le_of_lt hk HI.out
  obtain ⟨ad, e0, hx0, hx1⟩ := at_T54 HC.out (k : Int) (by omega) (by omega)
  subst e0
  have hget : rd_T54 l (k : Int) = l[k] := by simp [rd_T54, hlt]
  simp only [hget, Int.toNat_natCast] at hx0 hx1
  have htk : l.take (k + 1) = l.take k ++ [l[k]] := List.take_succ_eq_append_getElem hlt
  have hki : l[k].f0 ≠ s → k < i := fun h => by
   have : k ≠ i := fun e => h (by subst e; exact HE.out)
   omega
  have HW := jA (show ∃ h : k < l.length, l[k].f0 = l[k].f0 from ⟨hlt, rfl⟩)
  obtain ⟨x, hxx⟩ : ∃ x, x = l[k] := ⟨_, rfl⟩
  rw [← hxx] at hx0 hx1 htk hki
  have HXX := jA hxx
  have HTK := jA htk
  have HKI := jA hki
  have y0 := pw_cell_below HB.out hx0
  have y1 := pw_cell_below HB.out hx1
  have hg2 := pw_cell_below HB.out HG.out
  have HG2 := jA hg2
  have c0' : (k : Int) < l.length := by omega
  obtain ⟨q, hq⟩ : ∃ q, decide (x.f0 = s) = q := ⟨_, rfl⟩
  have HQ := jA hq
  clear hq hx0 hx1 hget hxx htk hki hg2
  cases q with
  | true =>
   go_wp2_with (first | (go_at_call 73; (with_reducible refine (same_calls x.f0 x.f1 g s _ HG2.out _ HQ.out).mono ?_); rintro e w3 ⟨rfl, hb3⟩; have HB3 := jA (below_then HB.out HB.out.size hb3); clear hb3))
   go_ret
   exact ⟨k, rfl, hk, ⟨hlt, by rw [← HXX.out]; exact of_decide_eq_true HQ.out⟩, HN.out, HB3.out⟩
  | false =>
   go_wp2_with (first | (go_at_call 73; (with_reducible refine (same_calls x.f0 x.f1 g s _ HG2.out _ HQ.out).mono ?_); rintro e w3 ⟨rfl, hb3⟩; have HB3 := jA (below_then HB.out HB.out.size hb3); clear hb3))
   have hne := of_decide_eq_false HQ.out
   go_roundw
   case rel => exact ⟨k + 1, HKI.out hne, by go_num, HB3, ⟨fun y hy => by rw [HTK.out, List.mem_append, List.mem_singleton] at hy; rcases hy with hy | rfl; exact HN.out y hy; exact hne⟩⟩
   case measure => simp [intOf]; omega
theorem putAll_short (L : List ByteArray) : ∀ xs : List ByteArray, (MPut.putAll L xs).length ≤ L.length + xs.length := by
 intro xs
 induction xs generalizing L with
 | nil => simp [MPut.putAll]
 | cons x r ih =>
  have h1 := ih (put1 L x)
  have h2 : (put1 L x).length ≤ L.length + 1 := by unfold put1; split <;> simp
  show (MPut.putAll (put1 L x) r).length ≤ _
  simp only [List.length_cons]
  omega
theorem once_ev (l : List ByteArray) (hl : l.length ≤ 8796093022207) : ∀ (d n : Nat), n + d = l.length → Ev (fun k => mean_once.l0 k (MPut.putAll [] (l.take n)) l l.length n) (MPut.putAll [] l)
 | 0, n, h => by
  rw [List.take_of_length_le (by omega)]
  refine Ev.step (f := fun _ => some _) (fun k => ?_) (Ev.now _)
  simp only [mean_once.l0]
  rw [if_neg (by omega)]
 | d + 1, n, h => by
  have hlt : n < l.length := by omega
  have hrd : rdOf ByteArray.empty l (n : Int) = l[n] := by simp [rdOf, hlt]
  have htk : l.take (n + 1) = l.take n ++ [l[n]] := List.take_succ_eq_append_getElem hlt
  have hnx : MPut.putAll [] (l.take (n + 1)) = put1 (MPut.putAll [] (l.take n)) l[n] := by rw [htk, MPut.putAll_snoc]
  have hsh := putAll_short [] (l.take n)
  have hsh : (MPut.putAll [] (l.take n)).length < 8796093022208 := by
   rw [List.length_take] at hsh
   simp only [List.length_nil] at hsh
   omega
  have hc := VPure.contains_f (MPut.putAll [] (l.take n)) l[n] (by omega)
  refine Ev.step (f := fun k => (slices_Contains_string_string.f k (MPut.putAll [] (l.take n)) l[n]).bind fun t => if t = true then mean_once.l0 k (MPut.putAll [] (l.take n)) l l.length ((n + 1 : Nat) : Int) else if (MPut.putAll [] (l.take n)).length < 8796093022208 then mean_once.l0 k (MPut.putAll [] (l.take n) ++ [l[n]]) l l.length ((n + 1 : Nat) : Int) else none) (fun k => ?_) (Ev.bind (f := fun k t => if t = true then mean_once.l0 k (MPut.putAll [] (l.take n)) l l.length ((n + 1 : Nat) : Int) else if (MPut.putAll [] (l.take n)).length < 8796093022208 then mean_once.l0 k (MPut.putAll [] (l.take n) ++ [l[n]]) l l.length ((n + 1 : Nat) : Int) else none) hc ?_)
  ·simp only [mean_once.l0]
   rw [if_pos (by omega), if_pos (by omega), if_pos (by omega), hrd, VPure.w64n hlt (by omega)]
  ·have ih := once_ev l hl d (n + 1) (by omega)
   rw [hnx] at ih
   by_cases hm : l[n] ∈ MPut.putAll [] (l.take n)
   ·rw [decide_eq_true ((mem_nm _ _).2 hm)]
    refine Ev.congr (fun k => ?_) ih
    rw [if_pos rfl, put1, if_pos hm]
   ·rw [decide_eq_false (fun e => hm ((mem_nm _ _).1 e))]
    refine Ev.congr (fun k => ?_) ih
    rw [if_neg (by simp), if_pos hsh, put1, if_neg hm]
theorem once_go (A : Option Addr) (c : Nat) (l : List ByteArray) (w : World) (hC : Kd.C Kd.string w A l.length l) (hc : l.length ≤ c) (hl : l.length ≤ 8796093022207) :
  Calls Try.prog 74 #[.slice A l.length c] w fun e w' => ∃ v, e = .returned v ∧ Kd.R Kd.string 9 w' w.heap.size (fun _ => True) v (MPut.putAll [] l) ∧ Below w.heap.size w w' := by
 obtain ⟨k, hk⟩ := (once_ev l hl l.length 0 (by omega)).rounds
 exact mean_once.calls k A c l _ w hC hc hk
end Go.Proofs.Ythaiodklfoegiaa.MPol
/- mean.Allows. -/
namespace Go.Proofs.Ythaiodklfoegiaa.MPol
open Go.RowKit YthaiodklfoegiaaW.PrintWords YthaiodklfoegiaaW.PrintLast YthaiodklfoegiaaW.PrintMore BMap BRow MLines MPut MClose MConcat MStand MSide Go.Maps
open PG YthaiodklfoegiaaF
noncomputable def PolD.speak (d : PolD) (s o : ByteArray) (tr : Nat) : List S78 := d.rules.filter fun r => speaksB r (d.who s) (d.what o) tr
open Classical in
noncomputable def PolD.allowB (d : PolD) (t : S28) : Bool := (d.trust t.f0).isSome && (decide (t.f1 ∈ d.objs) && (decide (t.f2 ∈ d.acts) && allowsF (d.speak t.f0 t.f1 ((d.trust t.f0).getD 0)) d.exc t))
structure AlS (p : Pol) (w : World) (t : S28) (g5 g7 : Nat) (v5 v7 : Array Value) (W : World) : Prop where
 below : Below w.heap.size w W
 s0 : Stays W w.heap.size p.cells 39
 s1 : Stays W (w.heap.size + 1) (tripV t) 28
 s5 : Stays W g5 v5 95
 s7 : Stays W g7 v7 95
theorem AlS.move {p : Pol} {w W W1 : World} {t : S28} {g5 g7 : Nat} {v5 v7 : Array Value} (h : AlS p w t g5 g7 v5 v7 W) (hb : Below W.heap.size W W1) : AlS p w t g5 g7 v5 v7 W1 := ⟨below_then h.below h.below.size hb, h.s0.below hb, h.s1.below hb, h.s5.below hb, h.s7.below hb⟩
theorem Stays.range {w : World} {g t : Nat} {cs : Array Value} (h : Stays w g cs t) (l : List Value) (hl : cs.toList = l) : w.rangeAt g 0 l := fun j v hv => by
 subst hl
 rw [h.cell, Nat.zero_add, ← hv]; simp
theorem SideOf.ones {W : World} {q : Bool} {v : Array Value} {name : ByteArray} {trust : Nat} {R : ByteArray → Prop} (h : SideOf W q v name trust R) : ∀ u ∈ v.toList, u.oneCell' = true := fun u hu => Array.all_eq_true_iff_forall_mem.1 h.one u (by simpa using hu)
theorem i39 : (Try.prog.info? 39).map (·.size) = some 11 := by kernel_rfl
end Go.Proofs.Ythaiodklfoegiaa.MPol
/- What Relation has got so far, in plain words. -/
namespace Go.Proofs.Ythaiodklfoegiaa.MPol
open Go.RowKit PG
def Got (d : PolD) (ns LO LA : List ByteArray) (i j l : Nat) (t : S28) : Prop :=
 d.allowB t = true ∧ t.f1 ∈ LO ∧ t.f2 ∈ LA ∧ (t.f0 ∈ ns.take i ∨ ∃ h : i < ns.length, t.f0 = ns[i] ∧ (t.f1 ∈ LO.take j ∨ ∃ h : j < LO.length, t.f1 = LO[j] ∧ t.f2 ∈ LA.take l))
section
variable {d : PolD} {ns LO LA : List ByteArray} {i j l : Nat} {t : S28}
theorem Got.start : ¬ Got d ns LO LA 0 0 0 t := by
 rintro ⟨-, -, -, h | ⟨_, -, h | ⟨_, -, h⟩⟩⟩
 ·simp at h
 ·simp at h
 ·simp at h
theorem Got.next (hi : i < ns.length) (hj : j < LO.length) (hl : l < LA.length) : Got d ns LO LA i j (l + 1) t ↔ (Got d ns LO LA i j l t ∨ (t = ⟨ns[i], LO[j], LA[l]⟩ ∧ d.allowB t = true)) := by
 have htk : LA.take (l + 1) = LA.take l ++ [LA[l]] := List.take_succ_eq_append_getElem hl
 unfold Got
 rw [htk]
 constructor
 ·rintro ⟨h1, h2, h3, h4 | ⟨_, h5, h6 | ⟨_, h7, h8⟩⟩⟩
  ·exact .inl ⟨h1, h2, h3, .inl h4⟩
  ·exact .inl ⟨h1, h2, h3, .inr ⟨hi, h5, .inl h6⟩⟩
  ·rcases List.mem_append.1 h8 with h8 | h8
   ·exact .inl ⟨h1, h2, h3, .inr ⟨hi, h5, .inr ⟨hj, h7, h8⟩⟩⟩
   ·refine .inr ⟨?_, h1⟩
    have h9 := List.mem_singleton.1 h8
    rw [← h5, ← h7, ← h9]
 ·rintro (⟨h1, h2, h3, h4 | ⟨_, h5, h6 | ⟨_, h7, h8⟩⟩⟩ | ⟨rfl, h1⟩)
  ·exact ⟨h1, h2, h3, .inl h4⟩
  ·exact ⟨h1, h2, h3, .inr ⟨hi, h5, .inl h6⟩⟩
  ·exact ⟨h1, h2, h3, .inr ⟨hi, h5, .inr ⟨hj, h7, List.mem_append_left _ h8⟩⟩⟩
  ·exact ⟨h1, List.getElem_mem hj, List.getElem_mem hl, .inr ⟨hi, rfl, .inr ⟨hj, rfl, List.mem_append_right _ (List.mem_singleton.2 rfl)⟩⟩⟩
theorem Got.nextObj (hj : j < LO.length) : Got d ns LO LA i j LA.length t ↔ Got d ns LO LA i (j + 1) 0 t := by
 have htk : LO.take (j + 1) = LO.take j ++ [LO[j]] := List.take_succ_eq_append_getElem hj
 unfold Got
 rw [htk, List.take_length]
 constructor
 ·rintro ⟨h1, h2, h3, h4 | ⟨hi, h5, h6 | ⟨_, h7, h8⟩⟩⟩
  ·exact ⟨h1, h2, h3, .inl h4⟩
  ·exact ⟨h1, h2, h3, .inr ⟨hi, h5, .inl (List.mem_append_left _ h6)⟩⟩
  ·exact ⟨h1, h2, h3, .inr ⟨hi, h5, .inl (by rw [h7]; exact List.mem_append_right _ (List.mem_singleton.2 rfl))⟩⟩
 ·rintro ⟨h1, h2, h3, h4 | ⟨hi, h5, h6 | ⟨_, h7, h8⟩⟩⟩
  ·exact ⟨h1, h2, h3, .inl h4⟩
  ·rcases List.mem_append.1 h6 with h6 | h6
   ·exact ⟨h1, h2, h3, .inr ⟨hi, h5, .inl h6⟩⟩
   ·exact ⟨h1, h2, h3, .inr ⟨hi, h5, .inr ⟨hj, List.mem_singleton.1 h6, h3⟩⟩⟩
  ·simp at h8
theorem Got.nextSub (hi : i < ns.length) : Got d ns LO LA i LO.length 0 t ↔ Got d ns LO LA (i + 1) 0 0 t := by
 have htk : ns.take (i + 1) = ns.take i ++ [ns[i]] := List.take_succ_eq_append_getElem hi
 unfold Got
 rw [htk, List.take_length]
 constructor
 ·rintro ⟨h1, h2, h3, h4 | ⟨_, h5, h6 | ⟨h, _⟩⟩⟩
  ·exact ⟨h1, h2, h3, .inl (List.mem_append_left _ h4)⟩
  ·exact ⟨h1, h2, h3, .inl (by rw [h5]; exact List.mem_append_right _ (List.mem_singleton.2 rfl))⟩
  ·omega
 ·rintro ⟨h1, h2, h3, h4 | ⟨_, h5, h6 | ⟨_, h7, h8⟩⟩⟩
  ·rcases List.mem_append.1 h4 with h4 | h4
   ·exact ⟨h1, h2, h3, .inl h4⟩
   ·exact ⟨h1, h2, h3, .inr ⟨hi, List.mem_singleton.1 h4, .inl h2⟩⟩
  ·simp at h6
  ·simp at h8
theorem Got.all : Got d ns LO LA ns.length 0 0 t ↔ (d.allowB t = true ∧ t.f1 ∈ LO ∧ t.f2 ∈ LA ∧ t.f0 ∈ ns) := by
 unfold Got
 rw [List.take_length]
 constructor
 ·rintro ⟨h1, h2, h3, h4 | ⟨h, _⟩⟩
  ·exact ⟨h1, h2, h3, h4⟩
  ·omega
 ·rintro ⟨h1, h2, h3, h4⟩
  exact ⟨h1, h2, h3, .inl h4⟩
end
end Go.Proofs.Ythaiodklfoegiaa.MPol
/- mean.about, its row as the call's own. -/
namespace Go.Proofs.Ythaiodklfoegiaa.MPol
open Go.RowKit YthaiodklfoegiaaW.PrintWords YthaiodklfoegiaaW.PrintLast YthaiodklfoegiaaW.PrintMore BMap BRow MLines MPut MClose MConcat MStand MSide Go.Maps
open PG YthaiodklfoegiaaF
theorem about_own (p : Pol) (w0 : World) (n1 : ByteArray) (t1 b1 : Nat) (R1 : ByteArray → Prop) (n2 : ByteArray) (t2 b2 : Nat) (R2 : ByteArray → Prop) (w : World) (hw0 : Below w0.heap.size w0 w) (hp0 : p.In w0) (hd : p.d.Ok) (h1 : IsSet w b1 R1) (h2 : IsSet w b2 R2) :
  Calls Try.prog 64 #[.agg p.cells, .agg (sideV n1 t1 b1), .agg (sideV n2 t2 b2)] w fun e w' => ∃ v, e = .returned v ∧ OwnRow (k78.K w0) 78 6 w' w.heap.size v (p.d.rules.filter fun r => speaksB r R1 R2 t1) ∧ Below w.heap.size w w' := by
 obtain ⟨d, A0, c0, A1, c1, A2, c2, A3, c3, A4, c4, A5, c5, A6, c6, A7, c7, A8, c8, A9, c9, A10, c10⟩ := p
 have hp := hp0.below hw0
 have hmax : d.rules.length ≤ 9223372036854775807 := hp.h9.2.1
 have HP0 := jA hp0
 have HW0 := jA hw0
 have Za := h1.lt
 have Zb := h2.lt
 have HP := jA hp
 have HD := jA hd
 have hA := Abt.start (Pol.mk d A0 c0 A1 c1 A2 c2 A3 c3 A4 c4 A5 c5 A6 c6 A7 c7 A8 c8 A9 c9 A10 c10) w (sideV n1 t1 b1) (sideV n2 t2 b2) h1 h2
 have e9 := hA.s0.cell 9
 simp only [Pol.cells, Jt, Ju, Jv] at e9
 have HA := jA hA
 clear hA hp hd h1 h2 hp0 hw0
 unfold Pol.cells
 unfold Pol.cells at HA
 obtain ⟨v1, hv1⟩ : ∃ v1, v1 = sideV n1 t1 b1 := ⟨_, rfl⟩
 obtain ⟨v2, hv2⟩ : ∃ v2, v2 = sideV n2 t2 b2 := ⟨_, rfl⟩
 have sz1 : v1.size = 3 := by rw [hv1]; rfl
 have sz2 : v2.size = 3 := by rw [hv2]; rfl
 rw [← hv1, ← hv2] at HA ⊢
 rw [← hv1, ← hv2] at e9
 have HV1 := jA hv1
 have HV2 := jA hv2
 have Zc := jA sz1
 have Zd := jA sz2
 clear hv1 hv2 sz1 sz2
 simp only [] at HA e9 ⊢
 go_enter Try.func64, Try.ntmps64
 go_wp2
 clear e9
 go_loopw [7, 13] (fun u7 u13 wr => ∃ k : Nat, k ≤ d.rules.length ∧ u13 = .int .i64 k ∧ Aside0 (Abt (Pol.mk d A0 c0 A1 c1 A2 c2 A3 c3 A4 c4 A5 c5 A6 c6 A7 c7 A8 c8 A9 c9 A10 c10) w wr v1 v2 b1 b2 R1 R2) ∧ Aside0 (OwnRow (k78.K w0) 78 6 wr w.heap.size u7 ((d.rules.take k).filter fun r => speaksB r R1 R2 t1))) (fun _ u13 _ => d.rules.length - (intOf u13).toNat)
 case atStart => exact ⟨0, Nat.zero_le _, rfl, HA, ⟨OwnRow.none_ _ _ _ _ _⟩⟩
 case round =>
  obtain ⟨k, hk, rfl, HR, HRow⟩ := hrel
  obtain ⟨Ao, co, rfl, hlo⟩ := HRow.out.slice_
  by_cases hlt : k < d.rules.length
  ·obtain ⟨ad, cs, e0, hcl, hK, hcell⟩ := Kd.C_get HP0.out.h9 z78 (k : Int) (by omega) (by simp only []; omega)
   have e0 : A9 = some ad := e0
   subst e0
   have hget : d.rules.getD (k : Int).toNat z78 = d.rules[k] := by simp [hlt]
   have hK : k78.K w0 d.rules[k] cs := by rw [← hget]; exact hK
   have htk : d.rules.take (k + 1) = d.rules.take k ++ [d.rules[k]] := List.take_succ_eq_append_getElem hlt
   have hro := HD.out.rules d.rules[k] (List.getElem_mem hlt)
   obtain ⟨x, hxx⟩ : ∃ x, x = d.rules[k] := ⟨_, rfl⟩
   rw [← hxx] at hK htk hro
   obtain ⟨A3', c3', rfl, l3, g3⟩ := k78_open hK
   have hcw : ∀ (j : Nat) (v : Value), ([.bool x.f0, .string x.f1, .string x.f2, .slice A3' x.f3.length c3', .int .i8 x.f4, .float .f64 x.f5] : List Value)[j]? = some v → wr.cell? ((ad.add (k * 6)).add j) = some v := by
    intro j v hj
    have h0 := hcell j v hj
    have h0 : w0.cell? (ad.add (k * 6 + j)) = some v := h0
    rw [add_add]
    exact pw_cell_below HR.out.below (pw_cell_below HW0.out h0)
   have HCW := jA hcw
   have HTK := jA htk
   have HRO := jA hro
   have HL3 := jA l3
   have HG3 := jA g3
   have HK := jA hK
   have c0' : (k : Int) < d.rules.length := by omega
   clear hcell hK hget htk hro hxx hcw hcl l3 g3
   go_upto_region 5 with (first | ((with_reducible refine gate_dst (N := 16) rfl ?_); refine wpList_load_at rfl 78 (.tmp 15) rfl (ad.add (k * 6)) ?hx [.bool x.f0, .string x.f1, .string x.f2, .slice A3' x.f3.length c3', .int .i8 x.f4, .float .f64 x.f5] HCW.out _ Try.underlying78 rfl i78 ?_; (case hx => rfl); refine wpList_alloc_store rfl rfl 78 9 (.tmp 16) rfl rfl rfl #[(.bool false), (.string ⟨#[]⟩), (.string ⟨#[]⟩), (.slice none 0 0), (.int .i8 0), (.float .f64 0)] (ruleV x A3' c3') _ (z78v _) rfl i78 rfl (by simp [ruleV, Value.oneCell']) ?hy ?hp ?_; (case hy => rfl); (case hp => rfl)))
   simp only [Act.put, List.setIfInBounds_toArray, List.set_cons_succ, List.set_cons_zero]
   have hS2 := heap_alloc_new wr (.cells (ruleV x A3' c3') 78)
   have hb2 := below_alloc (Below.refl _ wr) (.cells (ruleV x A3' c3') 78)
   have hA2 := HR.out.move hb2
   have hR2 := HRow.out.below hb2
   obtain ⟨W2, hW2⟩ : ∃ W2, W2 = wr.alloc (.cells (ruleV x A3' c3') 78) := ⟨_, rfl⟩
   obtain ⟨g9, hg9⟩ : ∃ g9, g9 = wr.heap.size := ⟨_, rfl⟩
   rw [← hg9] at hS2 ⊢
   rw [← hW2] at hS2 hA2 hR2 ⊢
   have hS2 : Stays W2 g9 (ruleV x A3' c3') 78 := hS2
   have HA2 := jA hA2
   have HR2 := jA hR2
   have HS2 := jA hS2
   clear hS2 hA2 hR2 hW2 hg9 hb2
   obtain ⟨q, hq⟩ : ∃ q, speaksB x R1 R2 t1 = q := ⟨_, rfl⟩
   have HQ := jA hq
   clear hq
   go_upto_if 20 with (first | ((with_reducible refine gate_dst (N := 17) rfl ?_); refine wpList_load_blk rfl 78 (.tmp 9) rfl g9 ?hx (ruleV x A3' c3') 78 HS2.out _ Try.underlying78 rfl i78 ?_; (case hx => rfl)) | ((with_reducible refine gate_dst (N := 18) rfl ?_); refine wpList_load_blk rfl 95 (.tmp 4) rfl (w.heap.size + 1) ?hx v1 95 HA2.out.s1 _ Try.underlying95 rfl (by rw [Zc.out]; exact i95) ?_; (case hx => rfl)) | ((with_reducible refine gate_dst (N := 19) rfl ?_); refine wpList_load_blk rfl 95 (.tmp 5) rfl (w.heap.size + 1 + 1) ?hx v2 95 HA2.out.s2 _ Try.underlying95 rfl (by rw [Zd.out]; exact i95) ?_; (case hx => rfl)) | (go_at_call 78; (with_reducible refine (speaks_go x A3' c3' n1 t1 b1 R1 n2 t2 b2 R2 _ q HQ.out (Kd.C_below (Kd.C_below HG3.out HW0.out) HA2.out.below) HL3.out HA2.out.set1 HA2.out.set2 HRO.out.1 HRO.out.2 v1 v2 HV1.out HV2.out).mono ?_); rintro e w3 ⟨rfl, hb3⟩; have HA3 := jA (HA2.out.move hb3); have HR3 := jA (HR2.out.below hb3); have HS3 := jA (HS2.out.below hb3); clear hb3))
   have hlim : (((d.rules.take k).filter fun r => speaksB r R1 R2 t1).length + 1) * 80 ≤ 140737488355328 := by
    have h1 := List.length_filter_le (fun r => speaksB r R1 R2 t1) (d.rules.take k)
    rw [List.length_take] at h1
    have h2 := HD.out.lrules
    omega
   have HLIM := jA hlim
   clear hlim
   have hfil : (d.rules.take (k + 1)).filter (fun r => speaksB r R1 R2 t1) = (d.rules.take k).filter (fun r => speaksB r R1 R2 t1) ++ if q = true then [x] else [] := by
    rw [HTK.out, List.filter_append, List.filter_cons, HQ.out]
    cases q <;> simp
   have HFIL := jA hfil
   clear hfil
   obtain ⟨L, hL⟩ : ∃ L, L = (d.rules.take k).filter (fun r => speaksB r R1 R2 t1) := ⟨_, rfl⟩
   rw [← hL] at HR3 HLIM HFIL hlo ⊢
   have HLL := jA hL
   clear hL
   have HNB := jA (fun (b : Nat) (hb : b < w.heap.size) => show some b ≠ (Value.slice Ao L.length co).ownBlock from fun e => by
    obtain ⟨inner, ho, _⟩ := HR3.out
    have := own_base ho b e.symm
    omega)
   cases q with
   | true =>
    go_wp2_with (first | ((with_reducible refine gate_dst (N := 22) rfl ?_); refine wpList_load_blk rfl 78 (.tmp 9) rfl g9 ?hx #[.bool x.f0, .string x.f1, .string x.f2, .slice A3' x.f3.length c3', .int .i8 x.f4, .float .f64 x.f5] 78 HS3.out _ Try.underlying78 rfl i78 ?_; (case hx => rfl)) | ((with_reducible refine gate_builtin (b := .append) (xs := #[.tmp 21, .tmp 23]) rfl ?_); at_builtin; refine OwnRow.append (w0 := w) w.heap.size rfl (.tmp 21) (.tmp 23) 36 78 (.agg #[(.bool false), (.string ⟨#[]⟩), (.string ⟨#[]⟩), (.slice none 0 0), (.int .i8 0), (.float .f64 0)]) 6 80 rfl Try.underlying36 info78 rfl (by decide) (by decide) _ L x [.bool x.f0, .string x.f1, .string x.f2, .slice A3' x.f3.length c3', .int .i8 x.f4, .float .f64 x.f5] rfl rfl HK.out rfl (k78.K_one HK.out) HR3.out HA3.out.below HA3.out.below.size HLIM.out ?_; intro v8 w8 hR8 hB8 hg8 Ze; have HR8 := jA hR8; have HA8 := jA (HA3.out.grown hg8 hB8 (HR3.out.ne_block HA3.out.s0 (by decide)) (HR3.out.ne_block HA3.out.s1 (by decide)) (HR3.out.ne_block HA3.out.s2 (by decide)) (HNB.out _ Za) (HNB.out _ Zb)); clear hR8 hB8 hg8 Ze))
    go_roundw
    case rel => exact ⟨k + 1, by omega, by go_num, HA8, ⟨by rw [HFIL.out, if_pos rfl]; exact HR8.out⟩⟩
    case measure => simp [intOf]; omega
   | false =>
    go_wp2
    go_roundw
    case rel => exact ⟨k + 1, by omega, by go_num, HA3, ⟨by rw [HFIL.out, if_neg (by simp), List.append_nil]; exact HR3.out⟩⟩
    case measure => simp [intOf]; omega
  ·have hkk : k = d.rules.length := by omega
   subst hkk
   have hfin := HRow.out
   rw [List.take_length] at hfin
   rw [List.take_length]
   have HFI := jA hfin
   clear hfin hlo
   go_wp2
   go_ret
   rw [List.take_length] at *
   exact ⟨_, rfl, HFI.out, HR.out.below⟩
end Go.Proofs.Ythaiodklfoegiaa.MPol
/- mean.Relation. -/
namespace Go.Proofs.Ythaiodklfoegiaa.MPol
open Go.RowKit YthaiodklfoegiaaW.PrintWords YthaiodklfoegiaaW.PrintLast YthaiodklfoegiaaW.PrintMore BMap BRow MLines MPut MClose MConcat MStand MSide Go.Maps
open PG YthaiodklfoegiaaF
abbrev SD := ByteArray × Nat × Nat
def RS (x : SD) (cs : List Value) : Prop := cs = [.string x.1, .float .f64 x.2.1, .map (some x.2.2)]
theorem RS_mk (n : ByteArray) (t b : Nat) : RS (n, t, b) [.string n, .float .f64 t, .map (some b)] := rfl
theorem info95 : (Try.prog.info? 95).map (fun i => (i.zero, i.size, i.bytes)) = some (some (.agg #[.string ⟨#[]⟩, .float .f64 0, .map none]), 3, 32) := by kernel_rfl
structure Sides (w wr : World) (v : Value) (ps : List SD) (R : ByteArray → Nat → ByteArray → Prop) (T : ByteArray → Nat → Prop) : Prop where
 row : OwnRow RS 95 3 wr w.heap.size v ps
 sets : ∀ x ∈ ps, IsSet wr x.2.2 (R x.1 x.2.1)
 trust : ∀ x ∈ ps, T x.1 x.2.1
 below : Below w.heap.size w wr
theorem Sides.move {w wr w1 : World} {v : Value} {ps : List SD} {R : ByteArray → Nat → ByteArray → Prop} {T : ByteArray → Nat → Prop} (h : Sides w wr v ps R T) (hb : Below wr.heap.size wr w1) : Sides w w1 v ps R T :=
 ⟨h.row.below hb, fun x hx => (h.sets x hx).below hb, h.trust, below_then h.below h.below.size hb⟩
theorem set_ne {W : World} {b : Nat} {R : ByteArray → Prop} (h : IsSet W b R) {α : Type} {Rr : α → List Value → Prop} {e size base : Nat} {v : Value} {ps : List α} (ho : OwnRow Rr e size W base v ps) : some b ≠ v.ownBlock := by
 intro hk
 obtain ⟨f, n, hM, _⟩ := h
 obtain ⟨es, cl, l, h1, _⟩ := hM.out
 obtain ⟨inner, hown, _⟩ := ho
 obtain ⟨cells, hc⟩ := own_typed hown b hk.symm
 rw [h1] at hc
 cases hc
theorem set_grown {W W1 : World} {b : Nat} {R : ByteArray → Prop} (h : IsSet W b R) {row : Option Nat} (hg : W.grownBy W1 row) (hne : some b ≠ row) : IsSet W1 b R := by
 obtain ⟨f, n, hM, hf⟩ := h
 exact ⟨f, n, hM.grown hg hne, hf⟩
theorem Sides.put {w wr w1 : World} {v v1 : Value} {ps : List SD} {R : ByteArray → Nat → ByteArray → Prop} {T : ByteArray → Nat → Prop} {x : SD} (h : Sides w wr v ps R T) (hx : IsSet wr x.2.2 (R x.1 x.2.1)) (ht : T x.1 x.2.1) (hr : OwnRow RS 95 3 w1 w.heap.size v1 (ps ++ [x])) (hg : wr.grownBy w1 v.ownBlock) (hb : Below w.heap.size w w1) : Sides w w1 v1 (ps ++ [x]) R T where
 row := hr
 sets := fun y hy => by
  rcases List.mem_append.1 hy with hy | hy
  ·exact set_grown (h.sets y hy) hg (set_ne (h.sets y hy) h.row)
  ·rw [List.mem_singleton.1 hy]; exact set_grown hx hg (set_ne hx h.row)
 trust := fun y hy => by
  rcases List.mem_append.1 hy with hy | hy
  ·exact h.trust y hy
  ·rw [List.mem_singleton.1 hy]; exact ht
 below := hb
theorem trust_some {d : PolD} {s : ByteArray} (h : ∃ y ∈ d.subs, y.f0 = s) : ∃ tr, d.trust s = some tr := by
 unfold PolD.trust
 cases hf : d.subs.find? (fun x => decide (x.f0 = s)) with
 | none =>
  obtain ⟨y, hy, he⟩ := h
  have := List.find?_eq_none.1 hf y hy
  simp [he] at this
 | some y => exact ⟨y.f1, rfl⟩
theorem subject_go (p : Pol) (s : ByteArray) (w : World) (hp : p.In w) (hd : p.d.Ok) (hs : okS s) (tr : Nat) (ht : p.d.trust s = some tr) :
  Calls Try.prog 60 #[.agg p.cells, .string s] w fun e w' => ∃ b, e = .returned (.tuple #[.agg #[.string s, .float .f64 tr, .map (some b)], .bool true]) ∧ IsSet w' b (p.d.who s) ∧ Below w.heap.size w w' := by
 refine (subject_calls p s w hp hd hs).mono ?_
 rintro e w' ⟨v, rfl, hS, hb⟩
 rw [ht] at hS ⊢
 obtain ⟨b, rfl, hset⟩ := hS.1 rfl
 exact ⟨b, rfl, hset, hb⟩
theorem object_go (p : Pol) (o : ByteArray) (w : World) (hp : p.In w) (hd : p.d.Ok) (ho : okS o) (hin : o ∈ p.d.objs) :
  Calls Try.prog 61 #[.agg p.cells, .string o] w fun e w' => ∃ b, e = .returned (.tuple #[.agg #[.string o, .float .f64 0, .map (some b)], .bool true]) ∧ IsSet w' b (p.d.what o) ∧ Below w.heap.size w w' := by
 classical
 refine (object_calls p o w hp hd ho true (by simpa using hin)).mono ?_
 rintro e w' ⟨v, rfl, hS, hb⟩
 obtain ⟨b, rfl, hset⟩ := hS.1 rfl
 exact ⟨b, rfl, hset, hb⟩
open Classical in
theorem allowB_at {d : PolD} {s o a : ByteArray} {tr : Nat} (h1 : d.trust s = some tr) (h2 : o ∈ d.objs) (h3 : a ∈ d.acts) : d.allowB ⟨s, o, a⟩ = allowsF (d.rules.filter fun r => speaksB r (d.who s) (d.what o) tr) d.exc ⟨s, o, a⟩ := by
 unfold PolD.allowB PolD.speak
 simp only [h1, decide_eq_true h2, decide_eq_true h3, Option.isSome_some, Bool.true_and, Option.getD_some]
theorem z28v (w : World) : (zeroValue 28).run Try.prog w = .ok (.agg #[.string ⟨#[]⟩, .string ⟨#[]⟩, .string ⟨#[]⟩]) w := by kernel_rfl
theorem info28 : (Try.prog.info? 28).map (fun i => (i.zero, i.size, i.bytes)) = some (some (.agg #[.string ⟨#[]⟩, .string ⟨#[]⟩, .string ⟨#[]⟩]), 3, 48) := by kernel_rfl
theorem own_stays {α : Type} {d : Kd α} {e : Nat} {W W1 : World} {base : Nat} {ok : Nat → Prop} {v : Value} {xs : List α} (h : d.R e W base ok v xs) (hg : W.grownBy W1 v.ownBlock) {g t : Nat} {cs : Array Value} (hS : Stays W g cs t) (hne : e ≠ t) : Stays W1 g cs t := by
 obtain ⟨_, inner, hown, _⟩ := h
 exact (hg.block _ (Array.getElem?_eq_some_iff.1 hS).1 (own_ne hown hS hne)).trans hS
theorem own_other_row {α β : Type} {d : Kd α} {e e2 size Zr : Nat} {Rr : β → List Value → Prop} {W W1 : World} {base : Nat} {ok : Nat → Prop} {v v2 : Value} {xs : List α} {ys : List β} (h : d.R e W base ok v xs) (hg : W.grownBy W1 v.ownBlock) (h2 : OwnRow Rr e2 size W Zr v2 ys) (hne : e2 ≠ e) : OwnRow Rr e2 size W1 Zr v2 ys := by
 obtain ⟨_, inner, hown, _⟩ := h
 refine h2.other hg ?_
 cases hb : v2.ownBlock with
 | none => exact .inl rfl
 | some k =>
  refine .inr fun e => ?_
  obtain ⟨Z2, ZC, _⟩ := h2
  obtain ⟨c1, hc1⟩ := own_typed ZC k hb
  obtain ⟨c2, hc2⟩ := own_typed hown k e.symm
  rw [hc1] at hc2
  have := Option.some.inj hc2
  simp only [Obj.cells.injEq] at this
  exact hne this.2.1
theorem Relation_calls (p : Pol) (w : World) (hp : p.In w) (hd : p.d.Ok) (hs : p.d.subs.length ≤ 64) (ho : p.d.objs.length ≤ 64) (ha : p.d.acts.length ≤ 16) :
  Calls Try.prog 59 #[.agg p.cells] w fun e w' => ∃ v, e = .returned v ∧ ∃ L : List S28, Kd.R k28 28 w' w.heap.size (fun _ => True) v L ∧ (∀ t, t ∈ L ↔ ((∃ y ∈ p.d.subs, y.f0 = t.f0) ∧ p.d.allowB t = true)) ∧ L.length ≤ 65536 ∧ Below w.heap.size w w' := by
 obtain ⟨d, A0, c0, A1, c1, A2, c2, A3, c3, A4, c4, A5, c5, A6, c6, A7, c7, A8, c8, A9, c9, A10, c10⟩ := p
 have HP := jA hp
 have HD := jA hd
 have HS := jA hs
 have HO := jA ho
 have HA := jA ha
 have hmax : d.subs.length ≤ 64 := hs
 clear hp hd hs ho ha
 have Zs : Stays (w.alloc (.cells (Pol.cells (Pol.mk d A0 c0 A1 c1 A2 c2 A3 c3 A4 c4 A5 c5 A6 c6 A7 c7 A8 c8 A9 c9 A10 c10)) 39)) w.heap.size (Pol.cells (Pol.mk d A0 c0 A1 c1 A2 c2 A3 c3 A4 c4 A5 c5 A6 c6 A7 c7 A8 c8 A9 c9 A10 c10)) 39 := heap_alloc_new w _
 have HST := jA Zs
 have e1 := Zs.cell 1
 simp only [Pol.cells, Jt, Ju, Jv] at e1
 clear Zs
 unfold Pol.cells
 unfold Pol.cells at HST
 simp only [] at HST e1 ⊢
 go_enter Try.func59, Try.ntmps59
 have hz := z54
 go_wp2
 clear e1
 go_loopw [3, 26] (fun u3 u26 wr => ∃ (k : Nat) (ps : List SD), k ≤ d.subs.length ∧ u26 = .int .i64 k ∧ Aside0 (Sides w wr u3 ps (fun s _ => d.who s) (fun s tr => d.trust s = some tr)) ∧ Aside0 (Stays wr w.heap.size (Pol.cells (Pol.mk d A0 c0 A1 c1 A2 c2 A3 c3 A4 c4 A5 c5 A6 c6 A7 c7 A8 c8 A9 c9 A10 c10)) 39) ∧ Aside0 (∀ s, s ∈ ps.map (·.1) ↔ ∃ y ∈ d.subs.take k, y.f0 = s) ∧ Aside0 (ps.length ≤ k)) (fun _ u26 _ => d.subs.length - (intOf u26).toNat)
 case atStart => exact ⟨0, [], Nat.zero_le _, rfl, ⟨⟨OwnRow.none_ _ _ _ _ _, by simp, by simp, below_alloc (Below.refl _ _) _⟩⟩, HST, ⟨by simp⟩, ⟨Nat.le_refl _⟩⟩
 case round =>
  obtain ⟨k, ps, hk, rfl, HR, HB, HM, HL⟩ := hrel
  have hpin := HP.out.below HR.out.below
  by_cases hlt : k < d.subs.length
  ·obtain ⟨ad, e0, hx0, hx1⟩ := at_T54 hpin.h1 (k : Int) (by omega) (by simp only []; omega)
   have hget : rd_T54 d.subs (k : Int) = d.subs[k] := by simp [rd_T54, hlt]
   simp only [hget, Int.toNat_natCast] at hx0 hx1
   have e0 : A1 = some ad := e0
   subst e0
   have htk : d.subs.take (k + 1) = d.subs.take k ++ [d.subs[k]] := List.take_succ_eq_append_getElem hlt
   have hin : d.subs[k] ∈ d.subs := List.getElem_mem hlt
   have hat : ∀ j (h : j < d.subs.length), j ≤ k → d.subs[j].f0 = d.subs[k].f0 → j ≠ k → ∃ y ∈ d.subs.take k, y.f0 = d.subs[k].f0 := fun j h hjk he hne => ⟨d.subs[j], by
    have hj : j < (d.subs.take k).length := by rw [List.length_take]; omega
    have e : (d.subs.take k)[j] = d.subs[j] := List.getElem_take
    rw [← e]
    exact List.getElem_mem hj, he⟩
   have hik : ∃ h : k < d.subs.length, d.subs[k].f0 = d.subs[k].f0 := ⟨hlt, rfl⟩
   obtain ⟨x, hxx⟩ : ∃ x, x = d.subs[k] := ⟨_, rfl⟩
   have HXX := jA hxx
   rw [← hxx] at hx0 hx1 htk hin hat
   have HTK := jA htk
   have HIN := jA hin
   have HAT := jA hat
   have HPI := jA hpin
   have c0' : (k : Int) < d.subs.length := by omega
   have e1 := HB.out.cell 1
   simp only [Pol.cells, Jt, Ju, Jv] at e1
   have hcw : ∀ (j : Nat) (v : Value), ([.string x.f0, .float .f64 x.f1] : List Value)[j]? = some v → wr.cell? ((ad.add (k * 2)).add j) = some v := by
    intro j v hj
    have hj2 : j < 2 := (List.getElem?_eq_some_iff.1 hj).1
    have : j = 0 ∨ j = 1 := by omega
    rcases this with rfl | rfl
    ·obtain rfl : Value.string x.f0 = v := by simpa using hj
     rw [Addr.add_zero']; exact hx0
    ·obtain rfl : Value.float .f64 x.f1 = v := by simpa using hj
     rw [add_add, add_field _ _ 1 (by omega)]; exact hx1
   have HCW := jA hcw
   clear hx0 hx1 hget htk hin hat hxx hcw hpin hik
   go_upto_region 5 with (first | ((with_reducible refine gate_dst (N := 30) rfl ?_); refine wpList_load_at rfl 54 (.tmp 29) rfl (ad.add (k * 2)) ?hx [.string x.f0, .float .f64 x.f1] HCW.out _ Try.underlying54 rfl i54 ?_; (case hx => rfl)) | ((with_reducible refine gate_store (t := 54) (p := 6) (v := .tmp 30) rfl ?_); refine wpList_store_var rfl 54 (.tmp 6) (.tmp 30) rfl wr.heap.size #[.string x.f0, .float .f64 x.f1] ?hx ?hy (cs := #[.string ⟨#[]⟩, .float .f64 0]) (t := 54) (heap_alloc_new wr _) rfl i54 (by simp [Value.oneCell']) ?_; (case hx => rfl); (case hy => rfl)))
   (try simp only [Act.put])
   have hb2 : Below wr.heap.size wr ((wr.alloc (.cells #[.string ⟨#[]⟩, .float .f64 0] 54)).setCells wr.heap.size 0 [.string x.f0, .float .f64 x.f1]) := setCells_below (below_alloc (Below.refl _ _) _) (Nat.le_refl _) _
   have hS2 : Stays ((wr.alloc (.cells #[.string ⟨#[]⟩, .float .f64 0] 54)).setCells wr.heap.size 0 [.string x.f0, .float .f64 x.f1]) wr.heap.size #[.string x.f0, .float .f64 x.f1] 54 := setCells_var (vs := #[.string x.f0, .float .f64 x.f1]) (heap_alloc_new wr _) rfl
   have hR2 := HR.out.move hb2
   have hB2 := HB.out.below hb2
   have hP2 := HPI.out.below hb2
   obtain ⟨W2, hW2⟩ : ∃ W2, W2 = ((wr.alloc (.cells #[.string ⟨#[]⟩, .float .f64 0] 54)).setCells wr.heap.size 0 [.string x.f0, .float .f64 x.f1]) := ⟨_, rfl⟩
   obtain ⟨g6, hg6⟩ : ∃ g6, g6 = wr.heap.size := ⟨_, rfl⟩
   rw [← hW2] at hS2 hR2 hB2 hP2 ⊢
   rw [← hg6] at hS2 ⊢
   have e1 := hB2.cell 1
   simp only [Pol.cells, Jt, Ju, Jv] at e1
   have hg : W2.cell? ⟨g6, 0, none⟩ = some (.string x.f0) := hS2.cell 0
   have HG := jA hg
   have HS2 := jA hS2
   have HR2 := jA hR2
   have HB2 := jA hB2
   have HP2 := jA hP2
   clear hb2 hS2 hR2 hB2 hP2 hW2 hg6 hg
   go_upto_if 36 with (first | (go_at_call 72; (with_reducible refine (index_calls (some ad) c1 d.subs g6 x.f0 _ HP2.out.h1 HG.out k hlt (congrArg S54.f0 HXX.out).symm).mono ?_); rintro e w3 ⟨j, rfl, hjk, hjs, hjn, hb3⟩; have HJS := jA hjs; have HJN := jA hjn; have HS3 := jA (HS2.out.below hb3); have HR3 := jA (HR2.out.move hb3); have HB3 := jA (HB2.out.below hb3); have HP3 := jA (HP2.out.below hb3); clear hjs hjn hb3))
   have e1 := HB3.out.cell 1
   simp only [Pol.cells, Jt, Ju, Jv] at e1
   by_cases hje : j = k
   ·have hq : ((j : Int) == (k : Int)) = true := by rw [hje]; exact beq_self_eq_true _
    obtain ⟨tr, htr⟩ := trust_some (d := d) (s := x.f0) ⟨x, HIN.out, rfl⟩
    have HTR := jA htr
    have hlim : (ps.length + 1) * 32 ≤ 140737488355328 := by have := HL.out; omega
    have HLIM := jA hlim
    have x0 : w3.cell? ⟨g6, 0, none⟩ = some (.string x.f0) := HS3.out.cell 0
    have hxok := HD.out.subs x HIN.out
    have HXOK := jA hxok
    clear htr hlim hje hxok
    go_upto_region 7 with (first | ((with_reducible refine gate_dst (N := 38) rfl ?_); refine wpList_load_blk rfl 39 (.tmp 1) rfl w.heap.size ?hx #[.slice A0 d.acts.length c0, .slice (some ad) d.subs.length c1, .slice A2 d.roles.length c2, .slice A3 d.objs.length c3, .slice A4 d.grps.length c4, .slice A5 d.mem.length c5, .slice A6 d.inh.length c6, .slice A7 d.par.length c7, .slice A8 d.wit.length c8, .slice A9 d.rules.length c9, .slice A10 d.exc.length c10] 39 HB3.out _ Try.underlying39 rfl i39 ?_; (case hx => rfl)) | (go_at_call 60; (refine (subject_go _ x.f0 _ HP3.out HD.out HXOK.out tr HTR.out).mono ?_); rintro e w4 ⟨b, rfl, hset, hb4⟩; have HR4 := jA (HR3.out.move hb4); have HB4 := jA (HB3.out.below hb4); have HSET := jA hset; clear hset hb4) | ((with_reducible refine gate_dst (N := 7) rfl ?_); refine wpList_alloc_store rfl rfl 95 7 (.tmp 42) rfl rfl rfl noneV #[.string x.f0, .float .f64 tr, .map (some b)] _ (z95 _) rfl i95 rfl (by simp [Value.oneCell']) ?hy ?hp ?_; (case hy => rfl); (case hp => rfl)))
    (try simp only [Act.put])
    have hb5 := below_alloc (Below.refl _ w4) (.cells #[.string x.f0, .float .f64 tr, .map (some b)] 95)
    have hS5 : Stays (w4.alloc (.cells #[.string x.f0, .float .f64 tr, .map (some b)] 95)) w4.heap.size #[.string x.f0, .float .f64 tr, .map (some b)] 95 := heap_alloc_new w4 _
    have hR5 := HR4.out.move hb5
    have hB5 := HB4.out.below hb5
    have hT5 := HSET.out.below hb5
    obtain ⟨W5, hW5⟩ : ∃ W5, W5 = w4.alloc (.cells #[.string x.f0, .float .f64 tr, .map (some b)] 95) := ⟨_, rfl⟩
    obtain ⟨g7, hg7⟩ : ∃ g7, g7 = w4.heap.size := ⟨_, rfl⟩
    rw [← hW5] at hR5 hB5 hT5 hS5 ⊢
    rw [← hg7] at hS5 ⊢
    have HR5 := jA hR5
    have HB5 := jA hB5
    have ZD := jA hT5
    have HS5 := jA hS5
    clear hb5 hS5 hR5 hB5 hT5 hW5 hg7
    go_wp2_with (first | ((with_reducible refine gate_dst (N := 45) rfl ?_); refine wpList_load_blk rfl 95 (.tmp 7) rfl g7 ?hx #[.string x.f0, .float .f64 tr, .map (some b)] 95 HS5.out _ Try.underlying95 rfl i95 ?_; (case hx => rfl)) | ((with_reducible refine gate_builtin (b := .append) (xs := #[.tmp 44, .tmp 46]) rfl ?_); at_builtin; refine OwnRow.append (w0 := w) (R := RS) w.heap.size rfl (.tmp 44) (.tmp 46) 111 95 (.agg #[.string ⟨#[]⟩, .float .f64 0, .map none]) 3 32 rfl Try.underlying111 info95 rfl (by decide) (by decide) u3 ps (x.f0, tr, b) [.string x.f0, .float .f64 tr, .map (some b)] rfl rfl (RS_mk _ _ _) rfl (by simp [Value.oneCell']) HR5.out.row HR5.out.below HR5.out.below.size HLIM.out ?_; intro v8 w8 hR8 hB8 hg8 Zt; have HR8 := jA (HR5.out.put (x := (x.f0, tr, b)) ZD.out HTR.out hR8 hg8 hB8); have HB8 := jA (show Stays w8 w.heap.size _ 39 from (hg8.block _ (Array.getElem?_eq_some_iff.1 HB5.out).1 (HR5.out.row.ne_block HB5.out (by decide))).trans HB5.out); clear hR8 hB8 hg8 Zt))
    go_roundw
    case rel => exact ⟨k + 1, _, by omega, by go_num, HR8, HB8, ⟨fun s => by rw [List.map_append, List.mem_append, HM.out s, HTK.out]; simp [or_and_right, exists_or, eq_comm]⟩, ⟨by rw [List.length_append]; have := HL.out; simp; omega⟩⟩
    case measure => simp [intOf]; omega
   ·have hq : ((j : Int) == (k : Int)) = false := by
     rw [beq_eq_false_iff_ne]; omega
    obtain ⟨hjl, hjx⟩ := HJS.out
    have hall := HAT.out j hjl hjk hjx hje
    have HALL := jA hall
    clear hje hall hjx hjl
    go_wp2
    go_roundw
    case rel => exact ⟨k + 1, ps, by omega, by go_num, HR3, HB3, ⟨fun s => by
     rw [HM.out s, HTK.out]
     constructor
     ·rintro ⟨y, hy, rfl⟩; exact ⟨y, List.mem_append_left _ hy, rfl⟩
     ·rintro ⟨y, hy, rfl⟩
      rcases List.mem_append.1 hy with hy | hy
      ·exact ⟨y, hy, rfl⟩
      ·rw [List.mem_singleton.1 hy]; exact HALL.out⟩, ⟨Nat.le_succ_of_le HL.out⟩⟩
    case measure => simp [intOf]; omega
  ·have hkk : k = d.subs.length := by omega
   subst hkk
   have hM := HM.out
   rw [List.take_length] at hM
   have HM1 := jA hM
   obtain ⟨w1, hw1⟩ : ∃ w1, w1 = wr := ⟨_, rfl⟩
   subst hw1
   have HP1 := jA hpin
   have e3 := HB.out.cell 3
   simp only [Pol.cells, Jt, Ju, Jv] at e3
   clear hM hpin HM
   have holen : d.objs.length ≤ 8796093022207 := Nat.le_trans HO.out (by decide)
   go_upto_region 10 with (first | (go_at_call 74; (with_reducible refine (once_go A3 c3 d.objs _ HP1.out.h3 HP1.out.l3 holen).mono ?_); rintro e w2 ⟨v51, rfl, ZE, hb2⟩; obtain ⟨A51, c51, rfl, ZF, ZG⟩ := Kd.R_reads ZE; have ZH := jA ZG; have HR2 := jA (HR.out.move hb2); have HB2 := jA (HB.out.below hb2); have HP2 := jA (HP1.out.below hb2); clear ZE ZG hb2))
   obtain ⟨LO, hLO⟩ : ∃ LO, LO = MPut.putAll [] d.objs := ⟨_, rfl⟩
   have hLOm : ∀ o, o ∈ LO ↔ o ∈ d.objs := fun o => by rw [hLO, MPut.mem_putAll]; simp
   have hLOs : LO.length ≤ 64 := by rw [hLO]; exact Nat.le_trans (putAll_short [] d.objs) (by simpa using HO.out)
   rw [← hLO] at ZH ZF ⊢
   have HLOM := jA hLOm
   clear hLO hLOm ZF
   go_loopw [4, 53] (fun u4 u53 wr => ∃ (k2 : Nat) (ps2 : List SD), k2 ≤ LO.length ∧ u53 = .int .i64 k2 ∧ Aside0 (Sides w2 wr u4 ps2 (fun o _ => d.what o) (fun o tr => tr = 0 ∧ o ∈ d.objs)) ∧ Aside0 (ps2.map (·.1) = LO.take k2)) (fun _ u53 _ => LO.length - (intOf u53).toNat)
   case atStart => exact ⟨0, [], Nat.zero_le _, rfl, ⟨⟨OwnRow.none_ _ _ _ _ _, by simp, by simp, Below.refl _ _⟩⟩, ⟨by simp⟩⟩
   case round =>
    obtain ⟨k2, ps2, hk2, rfl, HW, HN2⟩ := hrel
    by_cases Zu : k2 < LO.length
    ·obtain ⟨ad, e0, hx⟩ := Kd.at_string ZH.out (k2 : Int) (by omega) (by omega)
     subst e0
     have hget : rdOf ByteArray.empty LO (k2 : Int) = LO[k2] := by simp [rdOf, Zu]
     simp only [hget, Int.toNat_natCast] at hx
     have htk : LO.take (k2 + 1) = LO.take k2 ++ [LO[k2]] := List.take_succ_eq_append_getElem Zu
     have hmem : LO[k2] ∈ d.objs := (HLOM.out _).1 (List.getElem_mem Zu)
     obtain ⟨x, hxx⟩ : ∃ x, x = LO[k2] := ⟨_, rfl⟩
     rw [← hxx] at hx htk hmem
     replace hx := pw_cell_below HW.out.below hx
     have ZI : ps2.length ≤ 64 := by
      have := congrArg List.length HN2.out
      rw [List.length_map, List.length_take] at this
      omega
     have HLIM := jA (show (ps2.length + 1) * 32 ≤ 140737488355328 by omega)
     have HTK := jA htk
     have HMEM := jA hmem
     have HXOK := jA (HD.out.objs x hmem)
     have HB4 := jA (HB2.out.below HW.out.below)
     have HP4 := jA (HP2.out.below HW.out.below)
     have c0' : (k2 : Int) < LO.length := by omega
     clear hget htk hmem hxx ZI
     go_upto_region 13 with (first | ((with_reducible refine gate_dst (N := 58) rfl ?_); refine wpList_load_blk rfl 39 (.tmp 1) rfl w.heap.size ?hx #[.slice A0 d.acts.length c0, .slice A1 d.subs.length c1, .slice A2 d.roles.length c2, .slice A3 d.objs.length c3, .slice A4 d.grps.length c4, .slice A5 d.mem.length c5, .slice A6 d.inh.length c6, .slice A7 d.par.length c7, .slice A8 d.wit.length c8, .slice A9 d.rules.length c9, .slice A10 d.exc.length c10] 39 HB4.out _ Try.underlying39 rfl i39 ?_; (case hx => rfl)) | (go_at_call 61; (refine (object_go _ x _ HP4.out HD.out HXOK.out HMEM.out).mono ?_); rintro e w5 ⟨b, rfl, hset, hb5⟩; have HW5 := jA (HW.out.move hb5); have HSET := jA hset; clear hset hb5) | ((with_reducible refine gate_dst (N := 11) rfl ?_); refine wpList_alloc_store rfl rfl 95 11 (.tmp 61) rfl rfl rfl noneV #[.string x, .float .f64 0, .map (some b)] _ (z95 _) rfl i95 rfl (by simp [Value.oneCell']) ?hy ?hp ?_; (case hy => rfl); (case hp => rfl)))
     (try simp only [Act.put])
     have hb6 := below_alloc (Below.refl _ w5) (.cells #[.string x, .float .f64 0, .map (some b)] 95)
     have hS6 : Stays (w5.alloc (.cells #[.string x, .float .f64 0, .map (some b)] 95)) w5.heap.size #[.string x, .float .f64 0, .map (some b)] 95 := heap_alloc_new w5 _
     have hW6 := HW5.out.move hb6
     have hT6 := HSET.out.below hb6
     obtain ⟨W6, hW6e⟩ : ∃ W6, W6 = w5.alloc (.cells #[.string x, .float .f64 0, .map (some b)] 95) := ⟨_, rfl⟩
     obtain ⟨g11, ZJ⟩ : ∃ g11, g11 = w5.heap.size := ⟨_, rfl⟩
     rw [← hW6e] at hS6 hW6 hT6 ⊢
     rw [← ZJ] at hS6 ⊢
     have HS6 := jA hS6
     have HW6 := jA hW6
     have HT6 := jA hT6
     clear hb6 hS6 hW6 hT6 hW6e ZJ
     go_wp2_with (first | ((with_reducible refine gate_dst (N := 64) rfl ?_); refine wpList_load_blk rfl 95 (.tmp 11) rfl g11 ?hx #[.string x, .float .f64 0, .map (some b)] 95 HS6.out _ Try.underlying95 rfl i95 ?_; (case hx => rfl)) | ((with_reducible refine gate_builtin (b := .append) (xs := #[.tmp 63, .tmp 65]) rfl ?_); at_builtin; refine OwnRow.append (w0 := w2) (R := RS) w2.heap.size rfl (.tmp 63) (.tmp 65) 111 95 (.agg #[.string ⟨#[]⟩, .float .f64 0, .map none]) 3 32 rfl Try.underlying111 info95 rfl (by decide) (by decide) u4 ps2 (x, 0, b) [.string x, .float .f64 0, .map (some b)] rfl rfl (RS_mk _ _ _) rfl (by simp [Value.oneCell']) HW6.out.row HW6.out.below HW6.out.below.size HLIM.out ?_; intro v8 w8 hR8 hB8 hg8 Zt; have HW8 := jA (HW6.out.put (x := (x, 0, b)) HT6.out ⟨rfl, HMEM.out⟩ hR8 hg8 hB8); clear hR8 hB8 hg8 Zt))
     go_roundw
     case rel => exact ⟨k2 + 1, _, by omega, by go_num, HW8, ⟨by rw [List.map_append, HN2.out, HTK.out]; rfl⟩⟩
     case measure => simp [intOf]; omega
    ·have Z3 : k2 = LO.length := by omega
     subst Z3
     have hN2 := HN2.out
     rw [List.take_length] at hN2
     have HNW := jA hN2
     obtain ⟨w3, hw3⟩ : ∃ w3, w3 = wr := ⟨_, rfl⟩
     subst hw3
     have HP3 := jA (HP2.out.below HW.out.below)
     have HR3 := jA (HR2.out.move HW.out.below)
     have HB3 := jA (HB2.out.below HW.out.below)
     have e0 := HB3.out.cell 0
     simp only [Pol.cells, List.getElem?_toArray, List.getElem?_cons_zero] at e0
     clear hN2 HN2
     have halen : d.acts.length ≤ 8796093022207 := Nat.le_trans HA.out (by decide)
     go_upto_region 16 with (first | (go_at_call 74; (with_reducible refine (once_go A0 c0 d.acts _ HP3.out.h0 HP3.out.l0 halen).mono ?_); rintro e w4 ⟨v70, rfl, ZK, hb4⟩; obtain ⟨A70, c70, rfl, ZL, ZM⟩ := Kd.R_reads ZK; have ZN := jA ZM; have HW4 := jA (HW.out.move hb4); have HR4 := jA (HR3.out.move hb4); have HB4 := jA (HB3.out.below hb4); have HP4 := jA (HP3.out.below hb4); clear ZK ZM hb4))
     obtain ⟨LA, hLA⟩ : ∃ LA, LA = MPut.putAll [] d.acts := ⟨_, rfl⟩
     have hLAm : ∀ o, o ∈ LA ↔ o ∈ d.acts := fun o => by rw [hLA, MPut.mem_putAll]; simp
     have hLAs : LA.length ≤ 16 := by rw [hLA]; exact Nat.le_trans (putAll_short [] d.acts) (by simpa using HA.out)
     rw [← hLA] at ZN ZL ⊢
     have HLAM := jA hLAm
     clear hLA hLAm ZL e0
     obtain ⟨Ax, cx, e3x, hlx, hRx⟩ := HR4.out.row.reads
     obtain ⟨Ay, cy, e4y, hly, hRy⟩ := HW4.out.row.reads
     subst e3x
     subst e4y
     have hps : ps.length ≤ 64 := Nat.le_trans HL.out HS.out
     have Yh : ps2.length ≤ 64 := by
      have := congrArg List.length HNW.out
      rw [List.length_map] at this
      omega
     have HRX := jA hRx
     have HRY := jA hRy
     clear hlx hly hRx hRy
     go_wp2
     have hRSget : ∀ {A : Option Addr} {qs : List SD} {W : World} (h : ReadsRow RS 3 W A qs.length qs) (n : Nat) (hn : n < qs.length), ∃ ad, A = some ad ∧ ∀ j v, ([.string qs[n].1, .float .f64 qs[n].2.1, .map (some qs[n].2.2)] : List Value)[j]? = some v → W.cell? ((ad.add (n * 3)).add j) = some v := by
      intro A qs W h n hn
      obtain ⟨ad, cs, e, _, hR, hc⟩ := h.get_ (⟨#[]⟩, 0, 0) (n : Int) (by omega) (by omega)
      have hR : RS qs[n] cs := by
       have : qs.getD (n : Int).toNat (⟨#[]⟩, 0, 0) = qs[n] := by simp [hn]
       rw [← this]; exact hR
      refine ⟨ad, e, fun j v hv => ?_⟩
      rw [add_add]
      exact hc j v (by rw [hR]; exact hv)
     have HGET := jA @hRSget
     clear hRSget
     go_loopw [14, 73] (fun u14 u73 wr => ∃ (i : Nat) (L : List S28), i ≤ ps.length ∧ u73 = .int .i64 i ∧ Aside0 (Kd.R k28 28 wr w4.heap.size (fun _ => True) u14 L) ∧ Aside0 (Below w4.heap.size w4 wr) ∧ Aside0 (∀ t, t ∈ L ↔ Got d (ps.map (·.1)) LO LA i 0 0 t) ∧ Aside0 (L.length ≤ i * 1024)) (fun _ u73 _ => ps.length - (intOf u73).toNat)
     case atStart => exact ⟨0, [], Nat.zero_le _, rfl, ⟨Kd.R_nil _ _ _ _ _⟩, ⟨Below.refl _ _⟩, ⟨fun t => by simp [Got.start]⟩, ⟨by simp⟩⟩
     case round =>
      obtain ⟨i, L, hi, rfl, HL3, HB5, HG, HN3⟩ := hrel
      by_cases Zf : i < ps.length
      ·obtain ⟨adx, ex, hcx⟩ := HGET.out HRX.out i Zf
       subst ex
       have hxin := List.getElem_mem Zf
       have hxset := HR4.out.sets _ hxin
       have hxtr := HR4.out.trust _ hxin
       have hnm : (ps.map (·.1))[i]? = some ps[i].1 := by simp [Zf]
       obtain ⟨xs, hxs⟩ : ∃ xs, xs = ps[i] := ⟨_, rfl⟩
       rw [← hxs] at hcx hxset hxtr hnm
       have hcx' : ∀ j v, ([.string xs.1, .float .f64 xs.2.1, .map (some xs.2.2)] : List Value)[j]? = some v → wr.cell? ((adx.add (i * 3)).add j) = some v := fun j v hv => pw_cell_below HB5.out (hcx j v hv)
       have HCX := jA hcx'
       have HXSET := jA hxset
       have HXTR := jA hxtr
       have HNM := jA hnm
       have c03 : (i : Int) < ps.length := by omega
       clear hcx hcx' hxset hxtr hnm hxin hxs
       go_upto_region 20 with (first | ((with_reducible refine gate_dst (N := 76) rfl ?_); refine wpList_load_at rfl 95 (.tmp 75) rfl (adx.add (i * 3)) ?hx [.string xs.1, .float .f64 xs.2.1, .map (some xs.2.2)] HCX.out _ Try.underlying95 rfl i95 ?_; (case hx => rfl); refine wpList_alloc_store rfl rfl 95 16 (.tmp 76) rfl rfl rfl noneV #[.string xs.1, .float .f64 xs.2.1, .map (some xs.2.2)] _ (z95 _) rfl i95 rfl (by simp [Value.oneCell']) ?hy ?hp ?_; (case hy => rfl); (case hp => rfl)))
       (try simp only [Act.put])
       have hbS := below_alloc (Below.refl _ wr) (.cells #[.string xs.1, .float .f64 xs.2.1, .map (some xs.2.2)] 95)
       have hsS : Stays (wr.alloc (.cells #[.string xs.1, .float .f64 xs.2.1, .map (some xs.2.2)] 95)) wr.heap.size #[.string xs.1, .float .f64 xs.2.1, .map (some xs.2.2)] 95 := heap_alloc_new wr _
       have hL6 := Kd.R_below HL3.out hbS
       have hB6 := below_then HB5.out HB5.out.size hbS
       obtain ⟨W6, hW6e⟩ : ∃ W6, W6 = wr.alloc (.cells #[.string xs.1, .float .f64 xs.2.1, .map (some xs.2.2)] 95) := ⟨_, rfl⟩
       obtain ⟨g16, ZO⟩ : ∃ g16, g16 = wr.heap.size := ⟨_, rfl⟩
       rw [← hW6e] at hsS hL6 hB6 ⊢
       rw [← ZO] at hsS ⊢
       have HSX := jA hsS
       have HL6 := jA hL6
       have HB6 := jA hB6
       clear hbS hsS hL6 hB6 hW6e ZO
       go_wp2
       go_loopw [14, 79] (fun u14 u79 wr => ∃ (j : Nat) (L : List S28), j ≤ ps2.length ∧ u79 = .int .i64 j ∧ Aside0 (Kd.R k28 28 wr w4.heap.size (fun _ => True) u14 L) ∧ Aside0 (Below w4.heap.size w4 wr) ∧ Aside0 (Stays wr g16 #[.string xs.1, .float .f64 xs.2.1, .map (some xs.2.2)] 95) ∧ Aside0 (∀ t, t ∈ L ↔ Got d (ps.map (·.1)) LO LA i j 0 t) ∧ Aside0 (L.length ≤ i * 1024 + j * 16)) (fun _ u79 _ => ps2.length - (intOf u79).toNat)
       case atStart => exact ⟨0, L, Nat.zero_le _, rfl, HL6, HB6, HSX, HG, ⟨by have := HN3.out; omega⟩⟩
       case round =>
        obtain ⟨j, L2, hj, rfl, HL7, HB7, Z4, HG7, HN7⟩ := hrel
        by_cases Zv : j < ps2.length
        ·obtain ⟨ady, ey, hcy⟩ := HGET.out HRY.out j Zv
         subst ey
         have hyin := List.getElem_mem Zv
         have hyset := HW4.out.sets _ hyin
         have hytr := HW4.out.trust _ hyin
         have hon : LO[j]? = some ps2[j].1 := by rw [← HNW.out]; simp [Zv]
         obtain ⟨ys, hys⟩ : ∃ ys, ys = ps2[j] := ⟨_, rfl⟩
         rw [← hys] at hcy hyset hytr hon
         have hcy' : ∀ j v, ([.string ys.1, .float .f64 ys.2.1, .map (some ys.2.2)] : List Value)[j]? = some v → wr.cell? ((ady.add (j * 1)).add 0) = wr.cell? ((ady.add (j * 1)).add 0) := fun _ _ _ => rfl
         clear hcy'
         have HCY := jA (fun q v (hv : ([.string ys.1, .float .f64 ys.2.1, .map (some ys.2.2)] : List Value)[q]? = some v) => (pw_cell_below HB7.out (hcy q v hv) : wr.cell? ((ady.add (j * 3)).add q) = some v))
         have HYSET := jA hyset
         have HYTR := jA hytr
         have HON := jA hon
         have c04 : (j : Int) < ps2.length := by omega
         clear hcy hyset hytr hon hyin hys
         go_upto_region 23 with (first | ((with_reducible refine gate_dst (N := 82) rfl ?_); refine wpList_load_at rfl 95 (.tmp 81) rfl (ady.add (j * 3)) ?hx [.string ys.1, .float .f64 ys.2.1, .map (some ys.2.2)] HCY.out _ Try.underlying95 rfl i95 ?_; (case hx => rfl); refine wpList_alloc_store rfl rfl 95 18 (.tmp 82) rfl rfl rfl noneV #[.string ys.1, .float .f64 ys.2.1, .map (some ys.2.2)] _ (z95 _) rfl i95 rfl (by simp [Value.oneCell']) ?hy ?hp ?_; (case hy => rfl); (case hp => rfl)))
         (try simp only [Act.put])
         have hbS := below_alloc (Below.refl _ wr) (.cells #[.string ys.1, .float .f64 ys.2.1, .map (some ys.2.2)] 95)
         have hsS : Stays (wr.alloc (.cells #[.string ys.1, .float .f64 ys.2.1, .map (some ys.2.2)] 95)) wr.heap.size #[.string ys.1, .float .f64 ys.2.1, .map (some ys.2.2)] 95 := heap_alloc_new wr _
         have hL8 := Kd.R_below HL7.out hbS
         have hB8 := below_then HB7.out HB7.out.size hbS
         have hS8 := Z4.out.below hbS
         obtain ⟨W8, hW8e⟩ : ∃ W8, W8 = wr.alloc (.cells #[.string ys.1, .float .f64 ys.2.1, .map (some ys.2.2)] 95) := ⟨_, rfl⟩
         obtain ⟨g18, ZP⟩ : ∃ g18, g18 = wr.heap.size := ⟨_, rfl⟩
         rw [← hW8e] at hsS hL8 hB8 hS8 ⊢
         rw [← ZP] at hsS ⊢
         have HSY := jA hsS
         have HL8 := jA hL8
         have HB8 := jA hB8
         have ZQ := jA hS8
         have HP8 := jA (HP4.out.below hB8)
         have ZR := jA (HB4.out.below hB8)
         have HX8 := jA (HXSET.out.below hB8)
         have HY8 := jA (HYSET.out.below hB8)
         clear hbS hsS hL8 hB8 hS8 hW8e ZP
         go_upto_region 24 with (first | ((with_reducible refine gate_dst (N := 83) rfl ?_); refine wpList_load_blk rfl 39 (.tmp 1) rfl w.heap.size ?hx #[.slice A0 d.acts.length c0, .slice A1 d.subs.length c1, .slice A2 d.roles.length c2, .slice A3 d.objs.length c3, .slice A4 d.grps.length c4, .slice A5 d.mem.length c5, .slice A6 d.inh.length c6, .slice A7 d.par.length c7, .slice A8 d.wit.length c8, .slice A9 d.rules.length c9, .slice A10 d.exc.length c10] 39 ZR.out _ Try.underlying39 rfl i39 ?_; (case hx => rfl)) | ((with_reducible refine gate_dst (N := 84) rfl ?_); refine wpList_load_blk rfl 95 (.tmp 16) rfl g16 ?hx #[.string xs.1, .float .f64 xs.2.1, .map (some xs.2.2)] 95 ZQ.out _ Try.underlying95 rfl i95 ?_; (case hx => rfl)) | ((with_reducible refine gate_dst (N := 85) rfl ?_); refine wpList_load_blk rfl 95 (.tmp 18) rfl g18 ?hx #[.string ys.1, .float .f64 ys.2.1, .map (some ys.2.2)] 95 HSY.out _ Try.underlying95 rfl i95 ?_; (case hx => rfl)) | (go_at_call 64; (refine (about_own _ w4 xs.1 xs.2.1 xs.2.2 _ ys.1 ys.2.1 ys.2.2 _ _ HB8.out HP4.out HD.out HX8.out HY8.out).mono ?_); rintro e w9 ⟨v19, rfl, hRu, hb9⟩; have HRU := jA hRu; have HL9 := jA (Kd.R_below HL8.out hb9); have HB9 := jA (below_then HB8.out HB8.out.size hb9); have Z5 := jA (ZQ.out.below hb9); have Z6 := jA (HSY.out.below hb9); have Z7 := jA (ZR.out.below hb9); clear hRu hb9))
         obtain ⟨RU, hRUe⟩ : ∃ RU, RU = d.rules.filter fun r => speaksB r (d.who xs.1) (d.what ys.1) xs.2.1 := ⟨_, rfl⟩
         have hRU := HRU.out
         rw [← hRUe] at hRU
         have HRU := jA hRU
         obtain ⟨Ar, cr, er, hlr, _⟩ := hRU.reads
         subst er
         have hal : ∀ a, a ∈ d.acts → d.allowB ⟨xs.1, ys.1, a⟩ = allowsF RU d.exc ⟨xs.1, ys.1, a⟩ := fun a ha => by
          rw [hRUe]; exact allowB_at HXTR.out HYTR.out.2 ha
         have HAL := jA hal
         clear hRU hRUe hal hlr
         go_wp2
         go_loopw [14, 89] (fun u14 u89 wr => ∃ (l : Nat) (L : List S28), l ≤ LA.length ∧ u89 = .int .i64 l ∧ Aside0 (Kd.R k28 28 wr w4.heap.size (fun _ => True) u14 L) ∧ Aside0 (Below w4.heap.size w4 wr) ∧ Aside0 (OwnRow (k78.K w4) 78 6 wr W8.heap.size (.slice Ar RU.length cr) RU) ∧ Aside0 (Stays wr g16 #[.string xs.1, .float .f64 xs.2.1, .map (some xs.2.2)] 95) ∧ Aside0 (Stays wr g18 #[.string ys.1, .float .f64 ys.2.1, .map (some ys.2.2)] 95) ∧ Aside0 (Stays wr w.heap.size #[.slice A0 d.acts.length c0, .slice A1 d.subs.length c1, .slice A2 d.roles.length c2, .slice A3 d.objs.length c3, .slice A4 d.grps.length c4, .slice A5 d.mem.length c5, .slice A6 d.inh.length c6, .slice A7 d.par.length c7, .slice A8 d.wit.length c8, .slice A9 d.rules.length c9, .slice A10 d.exc.length c10] 39) ∧ Aside0 (∀ t, t ∈ L ↔ Got d (ps.map (·.1)) LO LA i j l t) ∧ Aside0 (L.length ≤ i * 1024 + j * 16 + l)) (fun _ u89 _ => LA.length - (intOf u89).toNat)
         case atStart => exact ⟨0, L2, Nat.zero_le _, rfl, HL9, HB9, HRU, Z5, Z6, Z7, HG7, ⟨HN7.out⟩⟩
         case round =>
          obtain ⟨l, L3, hl, rfl, ZS, Zk, Z8, Zw, ZT, ZU, Zx, Zg⟩ := hrel
          by_cases Zy : l < LA.length
          ·obtain ⟨ada, ea, hxa⟩ := Kd.at_string ZN.out (l : Int) (by omega) (by omega)
           subst ea
           have hget : rdOf ByteArray.empty LA (l : Int) = LA[l] := by simp [rdOf, Zy]
           simp only [hget, Int.toNat_natCast] at hxa
           have hain : LA[l] ∈ d.acts := (HLAM.out _).1 (List.getElem_mem Zy)
           have hjl : j < LO.length := by have := congrArg List.length HNW.out; rw [List.length_map] at this; omega
           have hil : i < (ps.map (·.1)).length := by rw [List.length_map]; exact Zf
           have e1i : (ps.map (·.1))[i] = xs.1 := by have := HNM.out; rw [List.getElem?_eq_getElem hil] at this; exact Option.some.inj this
           have e2j : LO[j] = ys.1 := by have := HON.out; rw [List.getElem?_eq_getElem hjl] at this; exact Option.some.inj this
           have hnext : ∀ t, Got d (ps.map (·.1)) LO LA i j (l + 1) t ↔ (Got d (ps.map (·.1)) LO LA i j l t ∨ (t = ⟨xs.1, ys.1, LA[l]⟩ ∧ d.allowB t = true)) := fun t => by
            have := Got.next (d := d) (t := t) hil hjl Zy
            rw [e1i, e2j] at this
            exact this
           obtain ⟨a, haa⟩ : ∃ a, a = LA[l] := ⟨_, rfl⟩
           rw [← haa] at hxa hain hnext
           have ya := pw_cell_below Zk.out hxa
           have hall := HAL.out a hain
           obtain ⟨q, hq⟩ : ∃ q, allowsF RU d.exc ⟨xs.1, ys.1, a⟩ = q := ⟨_, rfl⟩
           rw [hq] at hall
           have HQ := jA hq
           have HALL := jA hall
           have HNEXT := jA hnext
           have x16 : wr.cell? ⟨g16, 0, none⟩ = some (.string xs.1) := Zw.out.cell 0
           have y18 : wr.cell? ⟨g18, 0, none⟩ = some (.string ys.1) := ZT.out.cell 0
           have c05 : (l : Int) < LA.length := by omega
           clear hget hain hjl hil e1i e2j hnext haa hxa hall hq
           go_upto_region 28 with (first | ((with_reducible refine gate_dst (N := 22) rfl ?_); refine wpList_alloc_store rfl rfl 28 22 (.tmp 98) rfl rfl rfl #[.string ⟨#[]⟩, .string ⟨#[]⟩, .string ⟨#[]⟩] #[.string xs.1, .string ys.1, .string a] _ (z28v _) rfl i28 rfl (by simp [Value.oneCell']) ?hy ?hp ?_; (case hy => rfl); (case hp => rfl)))
           (try simp only [Act.put])
           have hb := below_alloc (Below.refl _ wr) (.cells #[.string xs.1, .string ys.1, .string a] 28)
           have Zl : Stays (wr.alloc (.cells #[.string xs.1, .string ys.1, .string a] 28)) wr.heap.size #[.string xs.1, .string ys.1, .string a] 28 := heap_alloc_new wr _
           have hL := Kd.R_below ZS.out hb
           have hB := below_then Zk.out Zk.out.size hb
           have hR := Z8.out.below hb
           have hX := Zw.out.below hb
           have hY := ZT.out.below hb
           have hBX := ZU.out.below hb
           obtain ⟨W11, ZV⟩ : ∃ W11, W11 = wr.alloc (.cells #[.string xs.1, .string ys.1, .string a] 28) := ⟨_, rfl⟩
           obtain ⟨g22, ZW⟩ : ∃ g22, g22 = wr.heap.size := ⟨_, rfl⟩
           rw [← ZV] at Zl hL hB hR hX hY hBX ⊢
           rw [← ZW] at Zl ⊢
           have Zc := jA Zl
           have Zm := jA hL
           have Zd := jA hB
           have Zh := jA hR
           have Zn := jA hX
           have Zo := jA hY
           have Za := jA hBX
           have Zp := jA (HP4.out.below hB)
           have HLIM := jA (show (L3.length + 1) * 48 ≤ 140737488355328 by have := Zg.out; omega)
           clear hb Zl hL hB hR hX hY hBX ZV ZW x16 y18 ya
           have hCr : Kd.C k78 W11 Ar RU.length RU := by
            obtain ⟨A', c', e', _, hr⟩ := Zh.out.reads
            obtain ⟨rfl, rfl⟩ : Ar = A' ∧ cr = c' := by simpa using e'
            exact hr.imp_ (Below.refl _ _) (fun p c hp => k78.K_below Zd.out hp)
           have HCR := jA hCr
           clear hCr
           cases q with
           | false =>
            have HGn := jA (fun t => (Zx.out t).trans ⟨fun h => (HNEXT.out t).2 (.inl h), fun h => ((HNEXT.out t).1 h).elim id (fun h2 => by rw [h2.1, HALL.out] at h2; exact absurd h2.2 (by simp))⟩ : ∀ t, t ∈ L3 ↔ Got d (ps.map (·.1)) LO LA i j (l + 1) t)
            by_cases hru : RU.length = 0
            ·have hz0 : decide ((0 : Int) < RU.length) = false := by rw [decide_eq_false_iff_not]; omega
             have hz1 : ¬ (0 : Int) < RU.length := by omega
             have hz2 : ¬ 0 < RU.length := by omega
             have HALLS := jA (And.intro Zm (And.intro Zd (And.intro Zh (And.intro Zn (And.intro Zo (And.intro Za HGn))))))
             clear hru Zm Zd Zh Zn Zo Za HGn
             go_wp2
             go_roundw
             case rel => obtain ⟨q1, q2, q3, q4, q5, q6, q7⟩ := HALLS.out; exact ⟨l + 1, L3, by omega, by go_num, q1, q2, q3, q4, q5, q6, q7, ⟨by have := Zg.out; omega⟩⟩
             case measure => simp [intOf]; omega
            ·have hz0 : (0 : Int) < RU.length := by omega
             clear hru
             have y0 : W11.cell? ⟨w.heap.size, 0, none⟩ = some (.slice A0 d.acts.length c0) := Za.out.cell 0
             have y1 : W11.cell? ⟨w.heap.size, 1, none⟩ = some (.slice A1 d.subs.length c1) := Za.out.cell 1
             have y2 : W11.cell? ⟨w.heap.size, 2, none⟩ = some (.slice A2 d.roles.length c2) := Za.out.cell 2
             have y3 : W11.cell? ⟨w.heap.size, 3, none⟩ = some (.slice A3 d.objs.length c3) := Za.out.cell 3
             have y4 : W11.cell? ⟨w.heap.size, 4, none⟩ = some (.slice A4 d.grps.length c4) := Za.out.cell 4
             have y5 : W11.cell? ⟨w.heap.size, 5, none⟩ = some (.slice A5 d.mem.length c5) := Za.out.cell 5
             have y6 : W11.cell? ⟨w.heap.size, 6, none⟩ = some (.slice A6 d.inh.length c6) := Za.out.cell 6
             have y7 : W11.cell? ⟨w.heap.size, 7, none⟩ = some (.slice A7 d.par.length c7) := Za.out.cell 7
             have y8 : W11.cell? ⟨w.heap.size, 8, none⟩ = some (.slice A8 d.wit.length c8) := Za.out.cell 8
             have y9 : W11.cell? ⟨w.heap.size, 9, none⟩ = some (.slice A9 d.rules.length c9) := Za.out.cell 9
             have y10 : W11.cell? ⟨w.heap.size, 10, none⟩ = some (.slice A10 d.exc.length c10) := Za.out.cell 10
             have z0 : W11.cell? ⟨g22, 0, none⟩ = some (.string xs.1) := Zc.out.cell 0
             have z1 : W11.cell? ⟨g22, 1, none⟩ = some (.string ys.1) := Zc.out.cell 1
             have z2 : W11.cell? ⟨g22, 2, none⟩ = some (.string a) := Zc.out.cell 2
             go_wp2_with (go_at_call 63; (refine (allows_calls (Pol.mk d A0 c0 A1 c1 A2 c2 A3 c3 A4 c4 A5 c5 A6 c6 A7 c7 A8 c8 A9 c9 A10 c10) Ar cr RU ⟨xs.1, ys.1, a⟩ _ HCR.out Zp.out.h10 Zp.out.l10 _ HQ.out).mono ?_); rintro e w12 ⟨rfl, Zb⟩; have Ze := jA (Kd.R_below Zm.out Zb); have Zq := jA (below_then Zd.out Zd.out.size Zb); have Zz := jA (Zh.out.below Zb); have ZA := jA (Zn.out.below Zb); have ZB := jA (Zo.out.below Zb); have Zi := jA (Za.out.below Zb); have ZX := jA (Zc.out.below Zb); clear Zb)
             go_roundw
             case rel => exact ⟨l + 1, L3, by omega, by go_num, Ze, Zq, Zz, ZA, ZB, Zi, HGn, ⟨by have := Zg.out; omega⟩⟩
             case measure => simp [intOf]; omega
           | true =>
            have hru : RU.length ≠ 0 := fun e => by
             have hnil : RU = [] := List.length_eq_zero_iff.1 e
             have hq2 := HQ.out
             rw [hnil, allowsF_iff] at hq2
             obtain ⟨⟨⟨r, hr, _⟩, _⟩, _⟩ := hq2
             simp at hr
            have hz0 : (0 : Int) < RU.length := by omega
            clear hru
            have y0 : W11.cell? ⟨w.heap.size, 0, none⟩ = some (.slice A0 d.acts.length c0) := Za.out.cell 0
            have y1 : W11.cell? ⟨w.heap.size, 1, none⟩ = some (.slice A1 d.subs.length c1) := Za.out.cell 1
            have y2 : W11.cell? ⟨w.heap.size, 2, none⟩ = some (.slice A2 d.roles.length c2) := Za.out.cell 2
            have y3 : W11.cell? ⟨w.heap.size, 3, none⟩ = some (.slice A3 d.objs.length c3) := Za.out.cell 3
            have y4 : W11.cell? ⟨w.heap.size, 4, none⟩ = some (.slice A4 d.grps.length c4) := Za.out.cell 4
            have y5 : W11.cell? ⟨w.heap.size, 5, none⟩ = some (.slice A5 d.mem.length c5) := Za.out.cell 5
            have y6 : W11.cell? ⟨w.heap.size, 6, none⟩ = some (.slice A6 d.inh.length c6) := Za.out.cell 6
            have y7 : W11.cell? ⟨w.heap.size, 7, none⟩ = some (.slice A7 d.par.length c7) := Za.out.cell 7
            have y8 : W11.cell? ⟨w.heap.size, 8, none⟩ = some (.slice A8 d.wit.length c8) := Za.out.cell 8
            have y9 : W11.cell? ⟨w.heap.size, 9, none⟩ = some (.slice A9 d.rules.length c9) := Za.out.cell 9
            have y10 : W11.cell? ⟨w.heap.size, 10, none⟩ = some (.slice A10 d.exc.length c10) := Za.out.cell 10
            have z0 : W11.cell? ⟨g22, 0, none⟩ = some (.string xs.1) := Zc.out.cell 0
            have z1 : W11.cell? ⟨g22, 1, none⟩ = some (.string ys.1) := Zc.out.cell 1
            have z2 : W11.cell? ⟨g22, 2, none⟩ = some (.string a) := Zc.out.cell 2
            go_upto_region 29 with (go_at_call 63; (refine (allows_calls (Pol.mk d A0 c0 A1 c1 A2 c2 A3 c3 A4 c4 A5 c5 A6 c6 A7 c7 A8 c8 A9 c9 A10 c10) Ar cr RU ⟨xs.1, ys.1, a⟩ _ HCR.out Zp.out.h10 Zp.out.l10 _ HQ.out).mono ?_); rintro e w12 ⟨rfl, Zb⟩; have Ze := jA (Kd.R_below Zm.out Zb); have Zq := jA (below_then Zd.out Zd.out.size Zb); have Zz := jA (Zh.out.below Zb); have ZA := jA (Zn.out.below Zb); have ZB := jA (Zo.out.below Zb); have Zi := jA (Za.out.below Zb); have ZX := jA (Zc.out.below Zb); clear Zb)
            clear y0 y1 y2 y3 y4 y5 y6 y7 y8 y9 y10 z0 z1 z2
            go_upto_region 30 with (first | ((with_reducible refine gate_dst (N := 109) rfl ?_); refine wpList_load_blk rfl 28 (.tmp 22) rfl g22 ?hx #[.string xs.1, .string ys.1, .string a] 28 ZX.out _ Try.underlying28 rfl i28 ?_; (case hx => rfl)) | (at_builtin; refine Kd.R_append k28 (w0 := w4) w4.heap.size rfl (.tmp 108) (.tmp 110) 37 28 (.agg #[.string ⟨#[]⟩, .string ⟨#[]⟩, .string ⟨#[]⟩]) 48 rfl Try.underlying37 info28 rfl (by decide) (by decide) u14 L3 ⟨xs.1, ys.1, a⟩ [.string xs.1, .string ys.1, .string a] (fun _ => True) (fun _ => False) rfl rfl (k28_mkM _ _ _ (⟨xs.1, ys.1, a⟩ : S28)) (fun _ hk => hk.elim) (fun _ _ => trivial) Ze.out Zq.out Zq.out.size HLIM.out ?_; intro v13 w13 ZY ZZ Zj Z0))
            have Z9 := jA (own_stays Ze.out Zj ZA.out (by decide))
            have Ya := jA (own_stays Ze.out Zj ZB.out (by decide))
            have Z1 := jA (own_stays Ze.out Zj Zi.out (by decide))
            have Yb := jA (own_other_row Ze.out Zj Zz.out (by decide))
            have Yc := jA ZY
            have Yd := jA ZZ
            have Ye := jA (fun t => by
             rw [List.mem_append, List.mem_singleton, HNEXT.out t, Zx.out t]
             constructor
             ·rintro (h | h)
              ·exact .inl h
              ·exact .inr ⟨h, by rw [h]; exact HALL.out⟩
             ·rintro (h | h)
              ·exact .inl h
              ·exact .inr h.1 : ∀ t, t ∈ L3 ++ [(⟨xs.1, ys.1, a⟩ : S28)] ↔ Got d (ps.map (·.1)) LO LA i j (l + 1) t)
            clear ZY ZZ Zj Z0
            go_wp2
            go_roundw
            case rel => exact ⟨l + 1, _, by omega, by go_num, Yc, Yd, Yb, Z9, Ya, Z1, Ye, ⟨by have := Zg.out; rw [List.length_append, List.length_singleton]; omega⟩⟩
            case measure => simp [intOf]; omega
          ·have hll : l = LA.length := by omega
           subst hll
           have Yf := jA (fun t => (Zx.out t).trans (Got.nextObj (by have := congrArg List.length HNW.out; rw [List.length_map] at this; omega)) : ∀ t, t ∈ L3 ↔ Got d (ps.map (·.1)) LO LA i (j + 1) 0 t)
           go_wp2
           go_roundw
           case rel => exact ⟨j + 1, L3, by omega, by go_num, ZS, Zk, Zw, Yf, ⟨by have := Zg.out; omega⟩⟩
           case measure => simp [intOf]; omega
        ·have hjj : j = ps2.length := by omega
         subst hjj
         have hLOl : LO.length = ps2.length := by have := congrArg List.length HNW.out; rw [List.length_map] at this; exact this.symm
         have HLOL := jA hLOl
         have Yg : (ps.map (·.1)).length = ps.length := List.length_map _
         have HG8 := jA (fun t => (HG7.out t).trans (by rw [← HLOL.out]; exact Got.nextSub (by rw [List.length_map]; exact Zf)) : ∀ t, t ∈ L2 ↔ Got d (ps.map (·.1)) LO LA (i + 1) 0 0 t)
         clear hLOl Yg
         go_wp2
         go_roundw
         case rel => exact ⟨i + 1, L2, by omega, by go_num, HL7, HB7, HG8, ⟨by have := HN7.out; omega⟩⟩
         case measure => simp [intOf]; omega
      ·have hii : i = ps.length := by omega
       subst hii
       have hfin : ∀ t, t ∈ L ↔ ((∃ y ∈ d.subs, y.f0 = t.f0) ∧ d.allowB t = true) := fun t => by
        have h1 := HG.out t
        have h0 := Got.all (d := d) (ns := ps.map (·.1)) (LO := LO) (LA := LA) (t := t)
        rw [List.length_map, HLOM.out, HLAM.out, HM1.out] at h0
        rw [h1, h0]
        constructor
        ·rintro ⟨h2, -, -, h5⟩; exact ⟨h5, h2⟩
        ·rintro ⟨h5, h2⟩
         refine ⟨h2, ?_, ?_, h5⟩
         ·unfold PolD.allowB at h2; simp only [Bool.and_eq_true, decide_eq_true_eq] at h2; exact h2.2.1
         ·unfold PolD.allowB at h2; simp only [Bool.and_eq_true, decide_eq_true_eq] at h2; exact h2.2.2.1
       have HFIN := jA hfin
       clear hfin
       go_wp2
       go_ret
       exact ⟨_, rfl, L, Kd.R_lower HL3.out (by have := HW4.out.below.size; have := HR4.out.below.size; omega), HFIN.out, by have := HN3.out; omega, below_then HR4.out.below HR4.out.below.size HB5.out⟩
end Go.Proofs.Ythaiodklfoegiaa.MPol
/- graph.masks, walked. -/
namespace Go.Proofs.Ythaiodklfoegiaa.CMasks
open Go.RowKit YthaiodklfoegiaaW.PrintWords YthaiodklfoegiaaW.PrintLast YthaiodklfoegiaaW.PrintMore BMap BRow GDiffer GBlk CPure CBits CClasses MLines MSide MPol Go.Maps
open PG
def numsAt (l : List ByteArray) (s : ByteArray) : List Int := (l.zipIdx.filter (fun p => decide (p.1 = s))).map (fun p => ((p.2 : Nat) : Int))
theorem numsAt_snoc (l : List ByteArray) (a s : ByteArray) : numsAt (l ++ [a]) s = numsAt l s ++ if a = s then [(l.length : Int)] else [] := by
 unfold numsAt
 rw [List.zipIdx_append, List.filter_append, List.map_append]
 congr 1
 by_cases h : a = s <;> simp [h]
theorem mem_numsAt (l : List ByteArray) (s : ByteArray) (k : Nat) : (k : Int) ∈ numsAt l s ↔ l[k]? = some s := by
 unfold numsAt
 simp only [List.mem_map, List.mem_filter, decide_eq_true_eq]
 constructor
 ·rintro ⟨⟨x, i⟩, ⟨h1, h2⟩, h3⟩
  have h4 := List.mk_mem_zipIdx_iff_getElem?.1 h1
  obtain rfl : i = k := by have h3 : (i : Int) = k := h3; omega
  obtain rfl : x = s := h2
  exact h4
 ·intro h
  exact ⟨(s, k), ⟨List.mk_mem_zipIdx_iff_getElem?.2 h, rfl⟩, rfl⟩
theorem numsAt_length (l : List ByteArray) (s : ByteArray) : (numsAt l s).length ≤ l.length := by
 unfold numsAt
 rw [List.length_map]
 have := List.length_filter_le (fun p : ByteArray × Nat => decide (p.1 = s)) l.zipIdx
 simpa using this
structure Nums (w wr : World) (b : Nat) (f : ByteArray → Option Value) (n : Nat) (l : List ByteArray) : Prop where
 map : MapF Value.string id okS wr b f n
 ge : w.heap.size ≤ b
 no : ∀ s, f s = none → numsAt l s = []
 vals : ∀ s v, f s = some v → Kd.R (Kd.int .i64) 3 wr w.heap.size (fun k => k ≠ b) v (numsAt l s)
 apart : ∀ s s' v v' k, s ≠ s' → f s = some v → f s' = some v' → v.ownBlock = some k → v'.ownBlock ≠ some k
 below : Below w.heap.size w wr
theorem z23 (w : World) : (zeroValue 23).run Try.prog w = .ok (.slice none 0 0) w := by kernel_rfl
theorem Nums.move {w wr w1 : World} {b : Nat} {f : ByteArray → Option Value} {n : Nat} {l : List ByteArray} (h : Nums w wr b f n l) (hb : Below wr.heap.size wr w1) : Nums w w1 b f n l :=
 ⟨h.map.below hb, h.ge, h.no, fun s v hv => Kd.R_below (h.vals s v hv) hb, h.apart, below_then h.below h.below.size hb⟩
theorem Nums.grown {w wr w1 : World} {b : Nat} {f : ByteArray → Option Value} {n : Nat} {l : List ByteArray} {row : Nat} (h : Nums w wr b f n l) (hg : wr.grownBy w1 (some row)) (hge : w.heap.size ≤ row) (hne : b ≠ row) (hr : ∀ s v, f s = some v → v.ownBlock ≠ some row) : Nums w w1 b f n l where
 map := h.map.grown hg (fun e => hne (Option.some.inj e))
 ge := h.ge
 no := h.no
 vals := fun s v hv => Kd.R_mono (Kd.R_grown (Cl.okR (ok' := fun k => k ≠ b ∧ k ≠ row) (h.vals s v hv) (fun k hk => ⟨(h.vals s v hv).1 k hk, fun e => hr s v hv (by rw [hk, e])⟩)) hg (fun k hk e => hk.2 (Option.some.inj e))) (fun k hk => hk.1)
 apart := h.apart
 below := h.below.grown hg h.below.size (fun k hk => by cases hk; exact hge)
theorem Nums.put {w W w1 w4 : World} {b : Nat} {f : ByteArray → Option Value} {n n' : Nat} {l : List ByteArray} {a : ByteArray} {v0 v1 : Value} (h : Nums w W b f n l) (hv0 : v0 = (f a).getD (.slice none 0 0))
  (hR1 : Kd.R (Kd.int .i64) 3 w1 w.heap.size (fun k => k ≠ b) v1 (numsAt l a ++ [(l.length : Int)])) (hB1 : Below w.heap.size w w1) (hg1 : W.grownBy w1 v0.ownBlock) (Zi : v1.ownBlock = v0.ownBlock ∨ ∃ b, v1.ownBlock = some b ∧ W.heap.size ≤ b)
  (hM4 : MapF Value.string id okS w4 b (upd f a v1) n') (hg4 : w1.grownBy w4 (some b)) : Nums w w4 b (upd f a v1) n' (l ++ [a]) where
 map := hM4
 ge := h.ge
 no := fun s hs => by
  by_cases e : s = a
  ·subst e; rw [upd_same] at hs; cases hs
  ·rw [upd_other _ _ e] at hs
   rw [numsAt_snoc, if_neg (fun k => e k.symm), List.append_nil, h.no s hs]
 vals := fun s v hs => by
  by_cases e : s = a
  ·subst e
   rw [upd_same] at hs
   obtain rfl := Option.some.inj hs
   rw [numsAt_snoc, if_pos rfl]
   exact Kd.R_grown hR1 hg4 (fun k hk => fun e => hk (Option.some.inj e))
  ·rw [upd_other _ _ e] at hs
   rw [numsAt_snoc, if_neg (fun k => e k.symm), List.append_nil]
   have h1 := h.vals s v hs
   have h2 : Kd.R (Kd.int .i64) 3 W w.heap.size (fun k => k ≠ b ∧ some k ≠ v0.ownBlock) v (numsAt l s) := Cl.okR h1 fun k hk => ⟨h1.1 k hk, by
    subst hv0
    cases hf : f a with
    | none => simp [Value.ownBlock]
    | some v' =>
     intro hh
     exact h.apart s a v v' k e hs hf hk hh.symm⟩
   have h3 := Kd.R_grown h2 hg1 (fun k hk => hk.2)
   exact Kd.R_mono (Kd.R_grown h3 hg4 (fun k hk => fun e => hk.1 (Option.some.inj e))) (fun k hk => hk.1)
 apart := fun s s' v v' k hne hs hs' hk hk' => by
  have hfar : ∀ t u, t ≠ a → f t = some u → u.ownBlock = some k → v1.ownBlock = some k → False := by
   intro t u ht hu huk h1k
   rcases Zi with e | ⟨g, e, hge⟩
   ·subst hv0
    cases hf : f a with
    | none => rw [hf] at e; rw [e] at h1k; simp [Value.ownBlock] at h1k
    | some u' => rw [hf] at e; rw [e] at h1k; exact h.apart t a u u' k ht hu hf huk h1k
   ·rw [e] at h1k
    have := Cl.ltR (h.vals t u hu) k huk
    have := Option.some.inj h1k
    omega
  by_cases e : s = a
  ·by_cases e' : s' = a
   ·exact hne (e.trans e'.symm)
   ·rw [e, upd_same] at hs
    rw [upd_other _ _ e'] at hs'
    obtain rfl := Option.some.inj hs
    exact hfar s' v' e' hs' hk' hk
  ·rw [upd_other _ _ e] at hs
   by_cases e' : s' = a
   ·rw [e', upd_same] at hs'
    obtain rfl := Option.some.inj hs'
    exact hfar s v e hs hk hk'
   ·rw [upd_other _ _ e'] at hs'
    exact h.apart s s' v v' k hne hs hs' hk hk'
 below := hB1.grown hg4 (Nat.le_trans h.below.size (hg1.size)) (fun k hk => by cases hk; exact h.ge)
theorem Nums.lk {w wr : World} {b : Nat} {f : ByteArray → Option Value} {n : Nat} {l : List ByteArray} (h : Nums w wr b f n l) {s : ByteArray} (hs : okS s) : (Instr.lookup 109 (.map (some b)) (.string s) false).run Try.prog wr = .ok ((f s).getD (.slice none 0 0)) wr := by
 have hq := h.map.lookup str_key Try.underlying109 (z23 wr) hs false
 simp only [Bool.false_eq_true, if_false, Option.map_id_fun, id] at hq
 exact hq
theorem Nums.read {w wr : World} {b : Nat} {f : ByteArray → Option Value} {n : Nat} {l : List ByteArray} (h : Nums w wr b f n l) (s : ByteArray) : ∃ A c, (f s).getD (.slice none 0 0) = .slice A (numsAt l s).length c ∧ Kd.C (Kd.int .i64) wr A (numsAt l s).length (numsAt l s) ∧ (numsAt l s).length ≤ c := by
 cases hf : f s with
 | none =>
  rw [h.no s hf]
  exact ⟨none, 0, rfl, ⟨rfl, by simp, fun h => absurd h (by simp)⟩, Nat.le_refl _⟩
 | some v =>
  obtain ⟨A, c, rfl, hl, hr⟩ := Kd.R_reads (h.vals s v hf)
  exact ⟨A, c, rfl, hr, hl⟩
theorem own_not_map {κ β : Type} {kenc : κ → Value} {venc : β → Value} {ok' : κ → Prop} {w : World} {b n : Nat} {fm : κ → Option β} (hM : MapF kenc venc ok' w b fm n) {α : Type} {dk : Kd α} {e base : Nat} {ok : Nat → Prop} {v : Value} {xs : List α} (h : dk.R e w base ok v xs) : v.ownBlock ≠ some b := by
 intro hb
 obtain ⟨inner, ho⟩ := Kd.R_own h
 obtain ⟨cells, hc⟩ := own_typed ho b hb
 obtain ⟨es, cl, l, h2, _⟩ := hM.out
 rw [h2] at hc
 cases hc
theorem Nums.beside {κ β : Type} {kenc : κ → Value} {venc : β → Value} {ok' : κ → Prop} {w wr w1 : World} {b n na ga : Nat} {f : ByteArray → Option Value} {fm : κ → Option β} {l : List ByteArray} (h : Nums w wr b f n l) (hM : MapF kenc venc ok' wr ga fm na) (hge : w.heap.size ≤ ga) (hne : b ≠ ga) (hg : wr.grownBy w1 (some ga)) : Nums w w1 b f n l :=
 h.grown hg hge hne (fun s v hv => own_not_map hM (h.vals s v hv))
abbrev PK := ByteArray × ByteArray
def okP (p : PK) : Prop := okS p.1 ∧ okS p.2
def pairV (p : PK) : Value := .agg #[.string p.1, .string p.2]
theorem pair_law : WideMaps.KeyLaw Try.prog 82 := deep_law_gate laidOut (of_decide_eq_true (by kernel_rfl)) (of_decide_eq_true (by kernel_rfl)) (by kernel_rfl) (by kernel_rfl)
theorem type82 : Try.prog.keyType 82 = true := by kernel_rfl
theorem cells82 : Try.prog.cellsOf 82 = 2 := by kernel_rfl
theorem cells9 : Try.prog.cellsOf 9 = 1 := by kernel_rfl
theorem str_lits (d : Nat) (s : ByteArray) (h : okS s) : Try.prog.keyLits (d + 1) 9 [.string s] = some [.string s.data.toList] := by
 have hm : s.size ≤ maxLen := Nat.le_trans h (by decide)
 unfold Program.keyLits
 rw [Try.underlying9]
 simp [hm]
theorem pair_is (p : PK) (h : okP p) : ∃ x, keyOf Try.prog 82 (pairV p) = some x := by
 obtain ⟨h1, h2⟩ := h
 have hk : Try.prog.keyLits (Try.prog.types.size + 1) 82 [.string p.1, .string p.2] = some [.string p.1.data.toList, .string p.2.data.toList] := by
  obtain ⟨dep, hdep⟩ := depth
  rw [hdep]
  unfold Program.keyLits
  rw [Try.underlying82]
  simp [cells82, cells9, str_lits _ _ h1, str_lits _ _ h2]
 unfold keyOf
 rw [Try.underlying82]
 have hf : (pairV p).formed Try.prog 82 = true := by
  simp [Value.formed, pairV, Try.underlying82, cells82]
 simp only [type82, hf, Bool.and_self, if_true]
 show ∃ x, (Try.prog.keyLits (Try.prog.types.size + 1) 82 #[Value.string p.1, .string p.2].toList).map _ = some x
 rw [List.toList_toArray, hk]
 exact ⟨_, rfl⟩
theorem pair_key : KeyOk Try.prog 82 pairV okP := ⟨Keyed.of_law pair_law, pair_is, fun a b h => by
 simp only [pairV, Value.agg.injEq] at h
 have := congrArg Array.toList h
 simp at this
 exact Prod.ext this.1 this.2⟩
abbrev MapP := MapF pairV (Value.int .u16) okP
theorem zero31 (w : World) : (zeroValue 31).run Try.prog w = .ok (.int .u16 0) w := by kernel_rfl
theorem pair_look {w : World} {b : Nat} {f : PK → Option Int} {n : Nat} (hM : MapP w b f n) {p : PK} (hp : okP p) : (Instr.lookup 79 (.map (some b)) (.agg #[.string p.1, .string p.2]) false).run Try.prog w = .ok (.int .u16 ((f p).getD 0)) w := by
 have hq := hM.lookup pair_key Try.underlying79 (zero31 w) hp false
 have e : ((f p).map (Value.int IntKind.u16)).getD (.int .u16 0) = .int .u16 ((f p).getD 0) := by cases f p <;> rfl
 simp only [Bool.false_eq_true, if_false, e] at hq
 exact hq
structure Alls (l : List ByteArray) (L : List S28) (f : PK → Option Int) : Prop where
 ok : ∀ p, ∃ m : Nat, (f p).getD 0 = m ∧ m < 65536 ∧ ∀ k, m.testBit k = true ↔ k < 16 ∧ ∃ a, l[k]? = some a ∧ (⟨p.1, p.2, a⟩ : S28) ∈ L
theorem Alls.none_ (l : List ByteArray) : Alls l [] (fun _ => none) := ⟨fun _ => ⟨0, rfl, by omega, fun k => by simp⟩⟩
theorem Alls.put {l : List ByteArray} {L : List S28} {f : PK → Option Int} (h : Alls l L f) (t : S28) (m : Nat) (hm : (f (t.f0, t.f1)).getD 0 = m) : Alls l (L ++ [t]) (upd f (t.f0, t.f1) ((m ||| orBits (numsAt l t.f2) : Nat) : Int)) := by
 refine ⟨fun p => ?_⟩
 obtain ⟨m', h1, h2, h3⟩ := h.ok p
 by_cases e : p = (t.f0, t.f1)
 ·subst e
  obtain rfl : m' = m := by have := h1.symm.trans hm; omega
  refine ⟨m' ||| orBits (numsAt l t.f2), by rw [upd_same]; rfl, Nat.or_lt_two_pow (n := 16) h2 (orBits_lt _), fun k => ?_⟩
  rw [Nat.testBit_or, Bool.or_eq_true, h3, orBits_bit, decide_eq_true_eq, mem_numsAt]
  constructor
  ·rintro (⟨h4, a, h5, h6⟩ | ⟨h4, h5⟩)
   ·exact ⟨h4, a, h5, List.mem_append_left _ h6⟩
   ·exact ⟨h4, _, h5, List.mem_append_right _ (List.mem_singleton.2 rfl)⟩
  ·rintro ⟨h4, a, h5, h6⟩
   rcases List.mem_append.1 h6 with h6 | h6
   ·exact .inl ⟨h4, a, h5, h6⟩
   ·refine .inr ⟨h4, ?_⟩
    have := List.mem_singleton.1 h6
    rw [h5, ← this]
 ·refine ⟨m', by rw [upd_other _ _ e]; exact h1, h2, fun k => ?_⟩
  rw [h3]
  constructor
  ·rintro ⟨h4, a, h5, h6⟩
   exact ⟨h4, a, h5, List.mem_append_left _ h6⟩
  ·rintro ⟨h4, a, h5, h6⟩
   refine ⟨h4, a, h5, ?_⟩
   rcases List.mem_append.1 h6 with h6 | h6
   ·exact h6
   ·exact absurd (by rw [← List.mem_singleton.1 h6]) e
theorem masks_calls (p : Pol) (w : World) (hp : p.In w) (hd : p.d.Ok) (hs : p.d.subs.length ≤ 64) (ho : p.d.objs.length ≤ 64) (ha : p.d.acts.length ≤ 16) :
  Calls Try.prog 48 #[.agg p.cells] w fun e w' => ∃ b f n L, e = .returned (.map (some b)) ∧ MapP w' b f n ∧ Alls p.d.acts L f ∧ (∀ t, t ∈ L ↔ ((∃ y ∈ p.d.subs, y.f0 = t.f0) ∧ p.d.allowB t = true)) ∧ w.heap.size ≤ b ∧ Below w.heap.size w w' := by
 obtain ⟨d, A0, c0, A1, c1, A2, c2, A3, c3, A4, c4, A5, c5, A6, c6, A7, c7, A8, c8, A9, c9, A10, c10⟩ := p
 have HP := jA hp
 have HD := jA hd
 have HS := jA hs
 have HO := jA ho
 have HA := jA ha
 have hmax : d.acts.length ≤ 16 := ha
 clear hp hd hs ho ha
 have Zd : Stays (w.alloc (.cells (Pol.cells (Pol.mk d A0 c0 A1 c1 A2 c2 A3 c3 A4 c4 A5 c5 A6 c6 A7 c7 A8 c8 A9 c9 A10 c10)) 39)) w.heap.size (Pol.cells (Pol.mk d A0 c0 A1 c1 A2 c2 A3 c3 A4 c4 A5 c5 A6 c6 A7 c7 A8 c8 A9 c9 A10 c10)) 39 := heap_alloc_new w _
 have HST := jA Zd
 have e0 := Zd.cell 0
 simp only [Pol.cells, List.getElem?_toArray, List.getElem?_cons_zero] at e0
 clear Zd
 unfold Pol.cells
 unfold Pol.cells at HST
 simp only [] at HST e0 ⊢
 have hmm := @run_makeMap Try.prog
 go_enter Try.func48, Try.ntmps48
 go_upto_region 2 with fail
 have hW0s : Stays ((w.alloc (.cells #[.slice A0 d.acts.length c0, .slice A1 d.subs.length c1, .slice A2 d.roles.length c2, .slice A3 d.objs.length c3, .slice A4 d.grps.length c4, .slice A5 d.mem.length c5, .slice A6 d.inh.length c6, .slice A7 d.par.length c7, .slice A8 d.wit.length c8, .slice A9 d.rules.length c9, .slice A10 d.exc.length c10] 39)).alloc (.map #[] 0)) w.heap.size #[.slice A0 d.acts.length c0, .slice A1 d.subs.length c1, .slice A2 d.roles.length c2, .slice A3 d.objs.length c3, .slice A4 d.grps.length c4, .slice A5 d.mem.length c5, .slice A6 d.inh.length c6, .slice A7 d.par.length c7, .slice A8 d.wit.length c8, .slice A9 d.rules.length c9, .slice A10 d.exc.length c10] 39 := HST.out.below (below_alloc (Below.refl _ _) _)
 have hW0b : Below w.heap.size w ((w.alloc (.cells #[.slice A0 d.acts.length c0, .slice A1 d.subs.length c1, .slice A2 d.roles.length c2, .slice A3 d.objs.length c3, .slice A4 d.grps.length c4, .slice A5 d.mem.length c5, .slice A6 d.inh.length c6, .slice A7 d.par.length c7, .slice A8 d.wit.length c8, .slice A9 d.rules.length c9, .slice A10 d.exc.length c10] 39)).alloc (.map #[] 0)) := below_alloc (below_alloc (Below.refl _ _) _) _
 have hW0n : Nums w ((w.alloc (.cells #[.slice A0 d.acts.length c0, .slice A1 d.subs.length c1, .slice A2 d.roles.length c2, .slice A3 d.objs.length c3, .slice A4 d.grps.length c4, .slice A5 d.mem.length c5, .slice A6 d.inh.length c6, .slice A7 d.par.length c7, .slice A8 d.wit.length c8, .slice A9 d.rules.length c9, .slice A10 d.exc.length c10] 39)).alloc (.map #[] 0)) (w.heap.size + 1) (fun _ => none) 0 [] := by
  have hM := MapF.made (kenc := Value.string) (venc := (id : Value → Value)) (ok := okS) (w.alloc (.cells #[.slice A0 d.acts.length c0, .slice A1 d.subs.length c1, .slice A2 d.roles.length c2, .slice A3 d.objs.length c3, .slice A4 d.grps.length c4, .slice A5 d.mem.length c5, .slice A6 d.inh.length c6, .slice A7 d.par.length c7, .slice A8 d.wit.length c8, .slice A9 d.rules.length c9, .slice A10 d.exc.length c10] 39))
  have hz : (w.alloc (.cells #[.slice A0 d.acts.length c0, .slice A1 d.subs.length c1, .slice A2 d.roles.length c2, .slice A3 d.objs.length c3, .slice A4 d.grps.length c4, .slice A5 d.mem.length c5, .slice A6 d.inh.length c6, .slice A7 d.par.length c7, .slice A8 d.wit.length c8, .slice A9 d.rules.length c9, .slice A10 d.exc.length c10] 39)).heap.size = w.heap.size + 1 := Array.size_push ..
  rw [hz] at hM
  exact ⟨hM, by omega, fun s _ => rfl, fun s v h => by simp at h, fun s s' v v' k _ h => by simp at h, hW0b⟩
 obtain ⟨W0, hW0⟩ : ∃ W0, W0 = ((w.alloc (.cells #[.slice A0 d.acts.length c0, .slice A1 d.subs.length c1, .slice A2 d.roles.length c2, .slice A3 d.objs.length c3, .slice A4 d.grps.length c4, .slice A5 d.mem.length c5, .slice A6 d.inh.length c6, .slice A7 d.par.length c7, .slice A8 d.wit.length c8, .slice A9 d.rules.length c9, .slice A10 d.exc.length c10] 39)).alloc (.map #[] 0)) := ⟨_, rfl⟩
 obtain ⟨gm, hgm⟩ : ∃ gm, gm = w.heap.size + 1 := ⟨_, rfl⟩
 rw [← hW0] at hW0s hW0b hW0n ⊢
 rw [← hgm] at hW0n ⊢
 have e0 := hW0s.cell 0
 simp only [List.getElem?_toArray, List.getElem?_cons_zero] at e0
 have HN0 := jA hW0n
 have HS0 := jA hW0s
 clear hW0s hW0b hW0n hW0 hgm HST
 go_wp2
 clear e0
 go_loopw [13] (fun u13 wr => ∃ (k : Nat) (f : ByteArray → Option Value) (n : Nat), k ≤ d.acts.length ∧ u13 = .int .i64 k ∧ Aside0 (Nums w wr gm f n (d.acts.take k)) ∧ Aside0 (Stays wr w.heap.size #[.slice A0 d.acts.length c0, .slice A1 d.subs.length c1, .slice A2 d.roles.length c2, .slice A3 d.objs.length c3, .slice A4 d.grps.length c4, .slice A5 d.mem.length c5, .slice A6 d.inh.length c6, .slice A7 d.par.length c7, .slice A8 d.wit.length c8, .slice A9 d.rules.length c9, .slice A10 d.exc.length c10] 39)) (fun u13 _ => d.acts.length - (intOf u13).toNat)
 case atStart => exact ⟨0, _, _, Nat.zero_le _, rfl, HN0, HS0⟩
 case round =>
  obtain ⟨k, f, n, hk, rfl, HN, HB⟩ := hrel
  have hpin := HP.out.below HN.out.below
  by_cases hlt : k < d.acts.length
  ·obtain ⟨ad, ea, hx⟩ := Kd.at_string hpin.h0 (k : Int) (by omega) (by simp only []; omega)
   have ea : A0 = some ad := ea
   subst ea
   have hget : rdOf ByteArray.empty d.acts (k : Int) = d.acts[k] := by simp [rdOf, hlt]
   simp only [hget, Int.toNat_natCast] at hx
   have htk : d.acts.take (k + 1) = d.acts.take k ++ [d.acts[k]] := List.take_succ_eq_append_getElem hlt
   have hq := HD.out.acts d.acts[k] (List.getElem_mem hlt)
   have hlen : (d.acts.take k).length = k := by rw [List.length_take]; omega
   obtain ⟨a, haa⟩ : ∃ a, a = d.acts[k] := ⟨_, rfl⟩
   rw [← haa] at hx htk hq
   have HQ := jA hq
   have HTK := jA htk
   have HLEN := jA hlen
   obtain ⟨v0, hv0⟩ : ∃ v0, v0 = (f a).getD (.slice none 0 0) := ⟨_, rfl⟩
   have hlk : (Instr.lookup 109 (.map (some gm)) (.string a) false).run Try.prog wr = .ok v0 wr := by
    have := HN.out.map.lookup str_key Try.underlying109 (z23 wr) HQ.out false
    subst hv0
    simpa using this
   have hR0 : Kd.R (Kd.int .i64) 3 wr w.heap.size (fun k => k ≠ gm) v0 (numsAt (d.acts.take k) a) := by
    subst hv0
    cases hf : f a with
    | none => rw [HN.out.no _ hf]; exact Kd.R_nil _ _ _ _ _
    | some v => exact HN.out.vals _ _ hf
   have HV0 := jA hv0
   have HR0 := jA hR0
   have hlim : ((numsAt (d.acts.take k) a).length + 1) * 8 ≤ 140737488355328 := by
    have h1 := numsAt_length (d.acts.take k) a
    rw [hlen] at h1
    omega
   have HLIM := jA hlim
   have c0' : (k : Int) < d.acts.length := by omega
   clear hpin hget htk hq hlen haa hv0 hR0 hlim
   obtain ⟨La, hLa⟩ : ∃ La, La = numsAt (d.acts.take k) a := ⟨_, rfl⟩
   rw [← hLa] at HR0 HLIM
   have HLA := jA hLa
   clear hLa
   go_wp2_with (first | ((with_reducible refine gate_builtin (b := .append) (xs := #[.tmp 22, .tmp 24]) rfl ?_); at_builtin; refine Kd.R_append (Kd.int .i64) (w0 := w) w.heap.size rfl (.tmp 22) (.tmp 24) 23 3 (.int .i64 0) 8 rfl Try.underlying23 info3 rfl (by decide) (by decide) v0 La (k : Int) [.int .i64 k] (fun b => b ≠ gm) (fun _ => False) rfl rfl rfl (fun _ hk => hk.elim) (fun k hk e => by have := HN.out.map.lt; omega) HR0.out HN.out.below HN.out.below.size HLIM.out ?_; intro v8 w8 hR8 hB8 hg8 Zf; obtain ⟨w9, Zb, hM9, hg9⟩ := (HN.out.map.grown hg8 (fun e => HR0.out.1 _ e.symm rfl)).update str_key Try.underlying109 HQ.out v8; have Zb : (Instr.mapUpdate 109 (.map (some gm)) (.string a) v8).run Try.prog w8 = .ok () w9 := Zb; have HN9 := jA (HN.out.put HV0.out (by rw [← HLA.out, HLEN.out]; exact hR8) hB8 hg8 Zf hM9 hg9); have HB9 := jA (show Stays w9 w.heap.size _ 39 from (hg9.block _ (Nat.lt_of_lt_of_le (Array.getElem?_eq_some_iff.1 HB.out).1 hg8.size) (fun e => map_ne HN.out.map HB.out (Option.some.inj e))).trans ((hg8.block _ (Array.getElem?_eq_some_iff.1 HB.out).1 (Kd.R_ne HR0.out HB.out (by decide))).trans HB.out)); clear hR8 hB8 hg8 Zf hM9 hg9))
   go_roundw
   case rel => exact ⟨k + 1, _, _, by omega, by go_num, ⟨by rw [HTK.out]; exact HN9.out⟩, HB9⟩
   case measure => simp [intOf]; omega
  ·have hkk : k = d.acts.length := by omega
   subst hkk
   have hN := HN.out
   rw [List.take_length] at hN
   have HN1 := jA hN
   obtain ⟨w1, hw1⟩ : ∃ w1, w1 = wr := ⟨_, rfl⟩
   subst hw1
   clear hN HN hpin
   have hmm := @run_makeMap Try.prog
   go_upto_region 8 with fail
   clear hmm
   have hM1 : MapP (w1.alloc (.map #[] 0)) w1.heap.size (fun _ => none) 0 := MapF.made w1
   have hb1 := below_alloc (Below.refl _ w1) (.map #[] 0)
   have hN1 := HN1.out.move hb1
   have hB1 := HB.out.below hb1
   have hne : gm ≠ w1.heap.size := by have := HN1.out.map.lt; omega
   have hga : w.heap.size ≤ w1.heap.size := HN1.out.below.size
   have Za : w1.heap.size < (w1.alloc (.map #[] 0)).heap.size := hM1.lt
   obtain ⟨W1, hW1⟩ : ∃ W1, W1 = w1.alloc (.map #[] 0) := ⟨_, rfl⟩
   obtain ⟨ga, hgae⟩ : ∃ ga, ga = w1.heap.size := ⟨_, rfl⟩
   rw [← hW1] at hM1 hN1 hB1 Za ⊢
   rw [← hgae] at hM1 hne hga Za ⊢
   have HM2 := jA hM1
   have HN2 := jA hN1
   have HB2 := jA hB1
   have HNE := jA hne
   have HGA := jA hga
   have Zj := jA Za
   clear hM1 hb1 hN1 hB1 hne hga Za hW1 hgae HN1 HB
   go_upto_region 9 with (first | ((with_reducible refine gate_dst (N := 28) rfl ?_); refine wpList_load_blk rfl 39 (.tmp 1) rfl w.heap.size ?hx #[.slice A0 d.acts.length c0, .slice A1 d.subs.length c1, .slice A2 d.roles.length c2, .slice A3 d.objs.length c3, .slice A4 d.grps.length c4, .slice A5 d.mem.length c5, .slice A6 d.inh.length c6, .slice A7 d.par.length c7, .slice A8 d.wit.length c8, .slice A9 d.rules.length c9, .slice A10 d.exc.length c10] 39 HB2.out _ Try.underlying39 rfl i39 ?_; (case hx => rfl)) | (go_at_call 59; (refine (Relation_calls (Pol.mk d A0 c0 A1 c1 A2 c2 A3 c3 A4 c4 A5 c5 A6 c6 A7 c7 A8 c8 A9 c9 A10 c10) _ (HP.out.below HN2.out.below) HD.out HS.out HO.out HA.out).mono ?_); rintro e w2 ⟨v29, rfl, L, hL, hspec, hlen, hb2⟩; obtain ⟨AL, cL, rfl⟩ := Kd.R_slice hL; have HL2 := jA (Kd.R_lower (Kd.R_mono (Kd.R_bound hL) (ok' := fun b => b ≠ ga) (fun k hk e => by have h1 := hk.2.1; have h2 := Zj.out; omega)) HN2.out.below.size); have HSP := jA hspec; have HLL := jA hlen; have HM3 := jA (HM2.out.below hb2); have HN3 := jA (HN2.out.move hb2); clear hL hspec hlen hb2))
   have hlmax : L.length ≤ 65536 := HLL.out
   go_loopw [31] (fun u31 wr => ∃ (k : Nat) (fa : PK → Option Int) (na : Nat), k ≤ L.length ∧ u31 = .int .i64 k ∧ Aside0 (Nums w wr gm f n d.acts) ∧ Aside0 (MapP wr ga fa na) ∧ Aside0 (Alls d.acts (L.take k) fa) ∧ Aside0 (Kd.R k28 28 wr w.heap.size (fun b => b ≠ ga) (.slice AL L.length cL) L)) (fun u31 _ => L.length - (intOf u31).toNat)
   case atStart => exact ⟨0, _, _, Nat.zero_le _, rfl, HN3, HM3, ⟨Alls.none_ _⟩, HL2⟩
   case round =>
    obtain ⟨k, fa, na, hk, rfl, HN4, HM4, HF4, HL4⟩ := hrel
    by_cases hlt : k < L.length
    ·have hCL := (Kd.R_reads' HL4.out).2.2
     obtain ⟨ad, ea, hx0, hx1, hx2⟩ := at_T28 hCL (k : Int) (by omega) (by omega)
     subst ea
     have hget : rd_T28 L (k : Int) = L[k] := by simp [rd_T28, hlt]
     simp only [hget, Int.toNat_natCast] at hx0 hx1 hx2
     have htk : L.take (k + 1) = L.take k ++ [L[k]] := List.take_succ_eq_append_getElem hlt
     have hmem : L[k] ∈ L := List.getElem_mem hlt
     obtain ⟨t, htt⟩ : ∃ t, t = L[k] := ⟨_, rfl⟩
     rw [← htt] at hx0 hx1 hx2 htk hmem
     have hsp := (HSP.out t).1 hmem
     have Zg : okS t.f0 := by
      obtain ⟨y, hy, he⟩ := hsp.1
      rw [← he]; exact HD.out.subs y hy
     have hin : t.f1 ∈ d.objs ∧ t.f2 ∈ d.acts := by
      have h2 := hsp.2
      unfold PolD.allowB at h2
      simp only [Bool.and_eq_true, decide_eq_true_eq] at h2
      exact ⟨h2.2.1, h2.2.2.1⟩
     have HOKP := jA (show okP (t.f0, t.f1) from ⟨Zg, HD.out.objs _ hin.1⟩)
     have HOKA := jA (HD.out.acts _ hin.2)
     have HTK := jA htk
     have hcw : ∀ (j : Nat) (v : Value), ([.string t.f0, .string t.f1, .string t.f2] : List Value)[j]? = some v → wr.cell? ((ad.add (k * 3)).add j) = some v := by
      intro j v hj
      have hj3 : j < 3 := (List.getElem?_eq_some_iff.1 hj).1
      have : j = 0 ∨ j = 1 ∨ j = 2 := by omega
      rcases this with rfl | rfl | rfl
      ·obtain rfl : Value.string t.f0 = v := by simpa using hj
       rw [Addr.add_zero']; exact hx0
      ·obtain rfl : Value.string t.f1 = v := by simpa using hj
       rw [add_add, add_field _ _ 1 (by omega)]; exact hx1
      ·obtain rfl : Value.string t.f2 = v := by simpa using hj
       rw [add_add, add_field _ _ 2 (by omega)]; exact hx2
     have HCW := jA hcw
     obtain ⟨m, hfa, Zh, hbits⟩ := HF4.out.ok (t.f0, t.f1)
     have HFA := jA hfa
     have Zk := jA Zh
     obtain ⟨Ax, cx, hax, hcx, hlx⟩ := HN4.out.read t.f2
     have HAX := jA hax
     have Ze := jA hcx
     have HLX := jA hlx
     have c0' : (k : Int) < L.length := by omega
     clear hCL hx0 hx1 hx2 hget htk hmem hsp Zg hin hcw hfa Zh hbits hax hcx hlx htt
     obtain ⟨ns, hns⟩ : ∃ ns, ns = numsAt d.acts t.f2 := ⟨_, rfl⟩
     rw [← hns] at HAX Ze HLX
     have HNS := jA hns
     clear hns
     go_upto_region 11 with (first | ((with_reducible refine gate_dst (N := 34) rfl ?_); refine wpList_load_at rfl 28 (.tmp 33) rfl (ad.add (k * 3)) ?hx [.string t.f0, .string t.f1, .string t.f2] HCW.out _ Try.underlying28 rfl i28 ?_; (case hx => rfl); refine wpList_alloc_store rfl rfl 28 8 (.tmp 34) rfl rfl rfl #[.string ⟨#[]⟩, .string ⟨#[]⟩, .string ⟨#[]⟩] #[.string t.f0, .string t.f1, .string t.f2] _ (z28v _) rfl i28 rfl (by simp [Value.oneCell']) ?hy ?hp ?_; (case hy => rfl); (case hp => rfl)))
     (try simp only [Act.put])
     have hb2 : Below wr.heap.size wr ((wr.alloc (.cells #[.string t.f0, .string t.f1, .string t.f2] 28)).drew) := below_drew (below_alloc (Below.refl _ _) _)
     have hS2 : Stays ((wr.alloc (.cells #[.string t.f0, .string t.f1, .string t.f2] 28)).drew) wr.heap.size #[.string t.f0, .string t.f1, .string t.f2] 28 := heap_alloc_new wr _
     obtain ⟨W3, hW3⟩ : ∃ W3, W3 = ((wr.alloc (.cells #[.string t.f0, .string t.f1, .string t.f2] 28)).drew) := ⟨_, rfl⟩
     obtain ⟨g8, hg8⟩ : ∃ g8, g8 = wr.heap.size := ⟨_, rfl⟩
     have HN3 := jA (HN4.out.move hb2)
     have HM3 := jA (HM4.out.below hb2)
     have HS3 := jA hS2
     have HL3 := jA (Kd.R_below HL4.out hb2)
     have HCX := jA (Kd.C_below Ze.out hb2)
     rw [← hW3] at HN3 HM3 HS3 HL3 HCX
     rw [← hg8] at HS3 ⊢
     have hfa : (fa (t.f0, t.f1)).getD 0 = ((m : Nat) : Int) := HFA.out
     refine start_ (n := 16) (S := fun w' => w'.cell? ⟨g8, 0, none⟩ = some (.string t.f0) ∧ w'.cell? ⟨g8, 1, none⟩ = some (.string t.f1) ∧ w'.cell? ⟨g8, 2, none⟩ = some (.string t.f2) ∧ (Instr.lookup 79 (.map (some ga)) (.agg #[.string t.f0, .string t.f1]) false).run Try.prog w' = .ok (.int .u16 ((m : Nat) : Int)) w' ∧ (Instr.lookup 109 (.map (some gm)) (.string t.f2) false).run Try.prog w' = .ok (.slice Ax ns.length cx) w') (ds := [15]) (Jb 16 0) (by kernel_rfl) rfl (by kernel_rfl) (by rw [hg8, ← hW3, ← hg8]; exact ⟨HS3.out.cell 0, HS3.out.cell 1, HS3.out.cell 2, by have h0 := pair_look HM3.out (p := (t.f0, t.f1)) HOKP.out; rw [hfa] at h0; exact h0, by have h0 := HN3.out.lk HOKA.out; rw [HAX.out] at h0; exact h0⟩) (fun hHeld => ?_)
     rw [hg8, ← hW3, ← hg8] at hHeld
     rw [hg8, ← hW3, ← hg8]
     clear hb2 hS2 hW3 hg8 hfa HN4 HM4 HL4 Ze
     refine Jp 0 35 (Jb 16 1) rfl rfl ?_
     refine Jp 1 36 (Jb 16 3) rfl rfl ?_
     refine Jk 2 37 (Jb 16 7) rfl rfl hHeld (.inl ⟨by rfl, by rintro w' ⟨s0, s1, s2, s3, s4⟩; go_simp; with_reducible rfl⟩) ?_
     refine Jp 3 38 (Jb 16 15) rfl rfl ?_
     refine Jk 4 39 (Jb 16 31) rfl rfl hHeld (.inl ⟨by rfl, by rintro w' ⟨s0, s1, s2, s3, s4⟩; go_simp; with_reducible rfl⟩) ?_
     refine Jp 5 40 (Jb 16 63) rfl rfl ?_
     refine take_ (i := 6) (N := some 41) (v := ?_) (a' := ?_) (Jb 16 127) rfl rfl (by kernel_rfl) (fun _ _ _ h => h) (Or.inl ⟨by rfl, ?_⟩) hHeld ?_ ?_
     rotate_left
     ·rintro w' ⟨s0, s1, s2, s3, s4⟩
      simp [execOp, Act.eval, s3]
      rfl
     rotate_left
     ·simp only [Act.put, Jq, Jr, Js]
      rfl
     refine Jp 7 42 (Jb 16 255) rfl rfl ?_
     refine Jp 8 43 (Jb 16 511) rfl rfl ?_
     refine Jk 9 44 (Jb 16 1023) rfl rfl hHeld (.inl ⟨by rfl, by rintro w' ⟨s0, s1, s2, s3, s4⟩; go_simp; with_reducible rfl⟩) ?_
     refine take_ (i := 10) (N := some 45) (v := ?_) (a' := ?_) (Jb 16 2047) rfl rfl (by kernel_rfl) (fun _ _ _ h => h) (Or.inl ⟨by rfl, ?_⟩) hHeld ?_ ?_
     rotate_left
     ·rintro w' ⟨s0, s1, s2, s3, s4⟩
      simp [execOp, Act.eval, s4]
      rfl
     rotate_left
     ·simp only [Act.put, Jq, Jr, Js]
      rfl
     refine one_ (i := 11) (N := some 46) (Jb 16 4095) rfl rfl (by kernel_rfl) (by decide) (fun K hK => ?_)
     refine goes_ Try.func70 (by kernel_rfl) rfl #[.slice Ax ns.length cx] (by rfl) rfl rfl (by (try simp only [List.map_toArray, List.map_cons, List.map_nil]); first | done | rfl) ?_
     refine (mask_go Ax cx ns _ HCX.out HLX.out).mono ?_
     rintro e w8 ⟨rfl, ⟨nd, rfl⟩⟩
     refine ⟨_, rfl, ?_⟩
     have HN4 := jA (HN3.out.move (pw_below_drewN (Below.refl _ _) nd))
     have HM4 := jA (HM3.out.drewN nd)
     have HS4 := jA (HS3.out.below (pw_below_drewN (Below.refl _ _) nd))
     have HL4 := jA (Kd.R_below HL3.out (pw_below_drewN (Below.refl _ _) nd))
     obtain ⟨W4, hW4⟩ : ∃ W4, W4 = W3.drewN nd := ⟨_, rfl⟩
     rw [← hW4] at HN4 HM4 HS4 HL4 ⊢
     clear hW4
     have hfa : (fa (t.f0, t.f1)).getD 0 = ((m : Nat) : Int) := HFA.out
     refine hK.out _ _ ⟨HS4.out.cell 0, HS4.out.cell 1, HS4.out.cell 2, by have h0 := pair_look HM4.out (p := (t.f0, t.f1)) HOKP.out; rw [hfa] at h0; exact h0, by have h0 := HN4.out.lk HOKA.out; rw [HAX.out] at h0; exact h0⟩ (fun hHeld => ?_)
     clear hK K hfa
     refine norm_ (a' := ?_) ?_ ?_; rotate_left; (show Act.put _ (some 46) _ = _; simp only [Act.put, Jq, Jr, Js]; rfl)
     refine Jp 12 47 (Jb 16 8191) rfl rfl ?_
     obtain ⟨w5, stamp, hrun, hM5, hg5, hst⟩ := HM4.out.entry pair_key Try.underlying79 (zv := 0) (zero31 W4) (k := (t.f0, t.f1)) HOKP.out
     have hfa : (fa (t.f0, t.f1)).getD 0 = ((m : Nat) : Int) := HFA.out
     rw [hfa] at hrun hM5
     refine one_ (i := 13) (N := some 48) (Jb 16 16383) rfl rfl (by kernel_rfl) (by decide) (fun K hK => ?_)
     refine GDiffer.step_run (w' := w5) (v := .tuple #[.int .u16 ((m : Nat) : Int), .int .i64 stamp]) rfl rfl ?_ ?_
     ·have hrun' : (Instr.mapEntry 79 (.map (some ga)) (.agg #[.string t.f0, .string t.f1])).run Try.prog W4 = .ok (.tuple #[.int .u16 ((m : Nat) : Int), .int .i64 stamp]) w5 := hrun
      simp [execOp, Act.eval, hrun']
     have hS5 : Stays w5 g8 #[.string t.f0, .string t.f1, .string t.f2] 28 := (hg5.block _ (Array.getElem?_eq_some_iff.1 HS4.out).1 (fun e => map_ne HM4.out HS4.out (Option.some.inj e))).trans HS4.out
     have hN5 := HN4.out.beside HM4.out HGA.out HNE.out hg5
     refine hK.out _ _ ⟨hS5.cell 0, hS5.cell 1, hS5.cell 2, by have h0 := pair_look hM5 (p := (t.f0, t.f1)) HOKP.out; rw [upd_same, Option.getD_some] at h0; exact h0, by have h0 := hN5.lk HOKA.out; rw [HAX.out] at h0; exact h0⟩ (fun hHeld => ?_)
     clear hK K hS5 hN5
     refine norm_ (a' := ?_) ?_ ?_; rotate_left; (show Act.put _ (some 48) _ = _; simp only [Act.put, Jq, Jr, Js]; rfl)
     refine Jp 14 49 (Jb 16 32767) rfl rfl ?_
     refine last_ (i := 15) (N := none) (Jb 16 65535) rfl rfl (by kernel_rfl) (by decide) (fun K hK => ?_)
     obtain ⟨w6, Zc, hM6, hg6⟩ := hst (Go.bits .or .u16 ((m : Nat) : Int) ((orBits ns : Nat) : Int))
     refine GDiffer.step_skip (w' := w6) rfl rfl ?_ ?_
     ·simp [execOp, Act.eval, Zc]
     refine hK.out _ _ ?_
     clear hK K
     refine done_ (by kernel_rfl) ?_
     have hor := or_both m (orBits ns) Zk.out (orBits_lt ns)
     rw [hor] at hM6
     have HN6 := jA (HN4.out.beside HM4.out HGA.out HNE.out hg6)
     have HM6 := jA hM6
     have HL6 := jA (Kd.R_grown HL4.out hg6 (fun k hk e => hk (Option.some.inj e)))
     have hF6 := HF4.out.put t m HFA.out
     rw [← HNS.out, ← HTK.out] at hF6
     have HF6 := jA hF6
     clear hM6 hg6 Zc hst hM5 hg5 hrun hHeld hor hF6 hfa
     go_wp2
     go_roundw
     case rel => exact ⟨k + 1, _, _, by omega, by go_num, HN6, HM6, HF6, HL6⟩
     case measure => simp [intOf]; omega
    ·have hkk : k = L.length := by omega
     subst hkk
     have hF := HF4.out
     rw [List.take_length] at hF
     have HF5 := jA hF
     clear hF
     go_wp2
     go_ret
     exact ⟨_, _, _, L, rfl, HM4.out, HF5.out, HSP.out, HGA.out, HN4.out.below⟩
end Go.Proofs.Ythaiodklfoegiaa.CMasks
/- slices.Clone of names. -/
namespace Go.Proofs.Ythaiodklfoegiaa.CClone
open Go.RowKit YthaiodklfoegiaaW.PrintWords YthaiodklfoegiaaW.PrintLast YthaiodklfoegiaaW.PrintMore MLines MSide MPol Go.Maps
open PG
theorem clone_calls (A : Option Addr) (c : Nat) (l : List ByteArray) (w : World) (hC : Kd.C Kd.string w A l.length l) (hl : l.length ≤ 8796093022207) :
  Calls Try.prog 47 #[.slice A l.length c] w fun e w' => ∃ v, e = .returned v ∧ Kd.R Kd.string 9 w' w.heap.size (fun _ => True) v l ∧ Below w.heap.size w w' := by
 have HC := jA hC
 have HL := jA hl
 have hmax : l.length ≤ 9223372036854775807 := hC.2.1
 clear hC hl
 cases A with
 | none =>
  have h0 : l = [] := by
   have := HC.out.2.2
   cases l with
   | nil => rfl
   | cons x r => obtain ⟨ad, h, _⟩ := this (by simp); cases h
  subst h0
  have he := fun w : World => Lib.run_eql_slice_nil (P := Try.prog) w 22 9 none 0 c 0 0 Try.underlying22
  go_enter Try.func47, Try.ntmps47
  go_wp2
  go_ret
  exact ⟨_, rfl, Kd.R_nil _ _ _ _ _, Below.refl _ _⟩
 | some ad =>
  have he := fun w : World => Lib.run_eql_slice_nil (P := Try.prog) w 22 9 (some ad) l.length c 0 0 Try.underlying22
  go_enter Try.func47, Try.ntmps47
  go_upto_region 3 with fail
  clear he
  have hlim : ((([] : List ByteArray)).length + l.length) * 16 ≤ 140737488355328 := by have := HL.out; simp; omega
  have HLIM := jA hlim
  clear hlim
  have hR5 : Kd.R Kd.string 9 (w.alloc (.cells #[] 9)) w.heap.size (fun _ => True) (.slice (some ⟨w.heap.size, 0, none⟩) 0 0) [] := by
   have h0 := own_lit_of (enc := Value.string) w w.heap.size 9 [] (Nat.le_refl _) (by simp)
   exact Kd.R_of_own (h1 := fun _ => rfl) h0 (fun _ _ => trivial)
  have HR5 := jA hR5
  have HB5 := jA (below_alloc (Below.refl _ w) (.cells #[] 9))
  clear hR5
  go_wp2_with (first | ((with_reducible refine gate_builtin (b := .append) (xs := #[.tmp 5, .tmp 6]) rfl ?_); at_builtin; refine Kd.R_append_row Value.string ⟨#[]⟩ (w0 := w) w.heap.size rfl (.tmp 5) (.tmp 6) 22 9 (.string ⟨#[]⟩) 16 rfl Try.underlying22 info9 rfl (by decide) (.slice (some ⟨w.heap.size, 0, none⟩) 0 0) [] l (some ad) l.length c (fun _ => True) rfl rfl (fun _ _ => trivial) HR5.out (Kd.C_below HC.out HB5.out) HB5.out HB5.out.size HLIM.out ?_; intro v7 w7 hR7 hB7 hg7 Za; have HR7 := jA hR7; have HB7 := jA hB7; clear hR7 hB7 hg7 Za))
  obtain ⟨A7, c7, rfl⟩ := Kd.R_slice HR7.out
  go_ret
  exact ⟨_, rfl, HR7.out, HB7.out⟩
end Go.Proofs.Ythaiodklfoegiaa.CClone
/- What lies still but in some blocks; a matrix filled step by step; a policy's masks. -/
namespace Go.Proofs.Ythaiodklfoegiaa.CSame
open Go.RowKit YthaiodklfoegiaaW.PrintWords YthaiodklfoegiaaW.PrintLast YthaiodklfoegiaaW.PrintMore BMap BRow GDiffer GBlk CPure CBits CClasses CMasks MLines MSide MPol Go.Maps
open PG
structure Same (S : Nat → Prop) (W wr : World) : Prop where
 os : wr.os = W.os
 tape : wr.tape = W.tape
 output : wr.output = W.output
 size : W.heap.size ≤ wr.heap.size
 block : ∀ b, b < W.heap.size → ¬ S b → wr.heap[b]? = W.heap[b]?
namespace Same
variable {S : Nat → Prop} {w W wr w1 : World}
theorem refl (S : Nat → Prop) (W : World) : Same S W W := ⟨rfl, rfl, rfl, Nat.le_refl _, fun _ _ _ => rfl⟩
theorem of_below (h : Below W.heap.size W wr) : Same S W wr := ⟨h.os, h.tape, h.output, h.size, fun b hb _ => h.block b hb⟩
theorem move (h : Same S W wr) (hb : Below wr.heap.size wr w1) : Same S W w1 :=
 ⟨hb.os.trans h.os, hb.tape.trans h.tape, hb.output.trans h.output, Nat.le_trans h.size hb.size, fun b hl hs => (hb.block b (Nat.lt_of_lt_of_le hl h.size)).trans (h.block b hl hs)⟩
theorem grown (h : Same S W wr) {row : Option Nat} (hg : wr.grownBy w1 row) (hr : ∀ k, row = some k → S k ∨ W.heap.size ≤ k) : Same S W w1 :=
 ⟨hg.os.trans h.os, hg.tape.trans h.tape, hg.output.trans h.output, Nat.le_trans h.size hg.size, fun b hl hs => (hg.block b (Nat.lt_of_lt_of_le hl h.size) (fun e => by
  rcases hr b e.symm with h1 | h1
  ·exact hs h1
  ·omega)).trans (h.block b hl hs)⟩
theorem set (h : Same S W wr) {a : Addr} (ha : S a.block ∨ W.heap.size ≤ a.block) (v : Value) : Same S W (wr.setCell a v) :=
 ⟨h.os, h.tape, h.output, by simpa [World.setCell] using h.size, fun b hl hs => (heap_setCell_other wr a b v (fun e => by
  rcases ha with h1 | h1
  ·exact hs (e ▸ h1)
  ·omega)).trans (h.block b hl hs)⟩
theorem drew (h : Same S W wr) : Same S W wr.drew := ⟨h.os, h.tape, h.output, h.size, h.block⟩
theorem stays (h : Same S W wr) {g t : Nat} {cs : Array Value} (hs : Stays W g cs t) (hn : ¬ S g) : Stays wr g cs t := (h.block g (Array.getElem?_eq_some_iff.1 hs).1 hn).trans hs
theorem toR (h : Same S W wr) {α : Type} {d : Kd α} {e base : Nat} {ok : Nat → Prop} {v : Value} {xs : List α} (hR : d.R e W base ok v xs) (hok : ∀ k, ok k → ¬ S k) : d.R e wr base ok v xs := Kd.R_step hR (fun k ho hk => h.block k hk (hok k ho))
theorem map (h : Same S W wr) {κ β : Type} {kenc : κ → Value} {venc : β → Value} {ok : κ → Prop} {b n : Nat} {f : κ → Option β} (hM : MapF kenc venc ok W b f n) (hn : ¬ S b) : MapF kenc venc ok wr b f n := hM.move (h.block b hM.lt hn)
theorem blk (h : Same S W wr) {g n : Nat} {F : Nat → Nat → Int} (hB : Blk W g n F) (hn : ¬ S g) : Blk wr g n F := World.rowIs.of_block hB (h.block g hB.lt hn)
theorem below (h : Same S W wr) (hb : Below w.heap.size w W) (hS : ∀ k, S k → w.heap.size ≤ k) : Below w.heap.size w wr :=
 ⟨h.os.trans hb.os, h.tape.trans hb.tape, h.output.trans hb.output, Nat.le_trans hb.size h.size, fun b hl => (h.block b (Nat.lt_of_lt_of_le hl hb.size) (fun e => by have := hS b e; omega)).trans (hb.block b hl)⟩
end Same
theorem stays_set {w : World} {g t : Nat} {cs : Array Value} (h : Stays w g cs t) (j : Nat) (v : Value) : Stays (w.setCell ⟨g, j, none⟩ v) g (cs.setIfInBounds j v) t := heap_setCell_same w g j cs t v h
theorem stays_far {w : World} {g t : Nat} {cs : Array Value} (h : Stays w g cs t) {a : Addr} (ha : g ≠ a.block) (v : Value) : Stays (w.setCell a v) g cs t := (heap_setCell_other w a g v ha).trans h
theorem R_setCells {α : Type} {dk : Kd α} {e base g t : Nat} {ok : Nat → Prop} {w : World} {v : Value} {xs : List α} {cs : Array Value} (h : dk.R e w base ok v xs) (hb : Stays w g cs t) (ht : ∀ q, q ∈ e :: dk.E → q ≠ t) (l : List Value) : dk.R e (w.setCells g 0 l) base ok v xs :=
 Kd.R_mono (Kd.R_step (Kd.R_types h hb ht) (fun _ ho _ => setCells_far l 0 _ ho.2)) (fun _ hk => hk.1)
theorem R_set {α : Type} {dk : Kd α} {e base g t : Nat} {ok : Nat → Prop} {w : World} {v : Value} {xs : List α} {cs : Array Value} (h : dk.R e w base ok v xs) (hb : Stays w g cs t) (ht : ∀ q, q ∈ e :: dk.E → q ≠ t) (j : Nat) (u : Value) : dk.R e (w.setCell ⟨g, j, none⟩ u) base ok v xs := Kd.R_set h hb ht j u
def prt (M : Nat → Nat → Int) (i j a b : Nat) : Int := if a < i ∨ (a = i ∧ b < j) then M a b else 0
theorem prt_zero (M : Nat → Nat → Int) (a b : Nat) : prt M 0 0 a b = 0 := by unfold prt; rw [if_neg (by omega)]
theorem prt_next (M : Nat → Nat → Int) (i j a b : Nat) : (if a = i ∧ b = j then M i j else prt M i j a b) = prt M i (j + 1) a b := by
 unfold prt
 by_cases h : a = i ∧ b = j
 ·obtain ⟨rfl, rfl⟩ := h
  rw [if_pos ⟨rfl, rfl⟩, if_pos (by omega)]
 ·rw [if_neg h]
  by_cases h2 : a < i ∨ a = i ∧ b < j
  ·rw [if_pos h2, if_pos (by omega)]
  ·rw [if_neg h2, if_neg (by omega)]
theorem prt_row (M : Nat → Nat → Int) (m i a b : Nat) : prt (fill m M) i m a b = prt (fill m M) (i + 1) 0 a b := by
 unfold prt
 by_cases h : a < i
 ·rw [if_pos (Or.inl h), if_pos (Or.inl (by omega))]
 ·by_cases e : a = i
  ·rw [if_pos (c := a < i + 1 ∨ _) (Or.inl (by omega))]
   by_cases h2 : b < m
   ·rw [if_pos (Or.inr ⟨e, h2⟩)]
   ·rw [if_neg (by omega)]
    unfold fill
    rw [if_neg h2]
  ·rw [if_neg (by omega), if_neg (by omega)]
theorem prt_all (M : Nat → Nat → Int) (n a b : Nat) (ha : a < n) : prt M n 0 a b = M a b := by unfold prt; rw [if_pos (by omega)]
theorem prt_cols (M : Nat → Nat → Int) (n m b a : Nat) (hb : b < m) : prt (fill m M) n 0 a b = fill n (fun j i => M i j) b a := by
 unfold prt fill
 by_cases h : a < n
 ·rw [if_pos (by omega), if_pos hb, if_pos h]
 ·rw [if_neg (by omega), if_neg h]
noncomputable def maskD (d : PolD) (s o : ByteArray) : Nat := maskN (fun k => match d.acts[k]? with | some a => d.allowB ⟨s, o, a⟩ | none => false) d.acts.length
theorem maskD_lt (d : PolD) (s o : ByteArray) (h : d.acts.length ≤ 16) : maskD d s o < 65536 := by
 have h1 := maskN_lt (fun k => match d.acts[k]? with | some a => d.allowB ⟨s, o, a⟩ | none => false) d.acts.length
 have h2 : 2 ^ d.acts.length ≤ 2 ^ 16 := Nat.pow_le_pow_right (by omega) h
 unfold maskD
 omega
theorem alls_mask {d : PolD} {L : List S28} {f : PK → Option Int} (h : Alls d.acts L f) (hL : ∀ t, t ∈ L ↔ ((∃ y ∈ d.subs, y.f0 = t.f0) ∧ d.allowB t = true)) (ha : d.acts.length ≤ 16) {s : ByteArray} (hs : ∃ y ∈ d.subs, y.f0 = s) (o : ByteArray) : (f (s, o)).getD 0 = ((maskD d s o : Nat) : Int) := by
 obtain ⟨m, h1, _, h3⟩ := h.ok (s, o)
 rw [h1]
 congr 1
 refine Nat.eq_of_testBit_eq fun k => ?_
 rw [Bool.eq_iff_iff, h3]
 unfold maskD
 rw [maskN_bit]
 constructor
 ·rintro ⟨_, a, h5, h6⟩
  have hk : k < d.acts.length := (List.getElem?_eq_some_iff.1 h5).1
  rw [h5]
  simp [hk, ((hL _).1 h6).2]
 ·intro h4
  rw [Bool.and_eq_true, decide_eq_true_eq] at h4
  obtain ⟨h5, h6⟩ := h4
  rw [List.getElem?_eq_getElem h5] at h6
  exact ⟨by omega, _, List.getElem?_eq_getElem h5, (hL _).2 ⟨hs, h6⟩⟩
noncomputable def matD (d : PolD) (i j : Nat) : Int := ((maskD d ((d.subs.map (·.f0)).getD i ⟨#[]⟩) (d.objs.getD j ⟨#[]⟩) : Nat) : Int)
theorem u16_wf {n : Nat} (h : n < 65536) : (Lit.int .u16 ((n : Nat) : Int)).wf = true := by
 simp [Lit.wf, IntKind.min, IntKind.max, IntKind.signed, IntKind.bits]
 omega
theorem matD_u16 (d : PolD) (ha : d.acts.length ≤ 16) (i j : Nat) : (Lit.int .u16 (matD d i j)).wf = true := u16_wf (maskD_lt d _ _ ha)
theorem fill_u16 {m : Nat} {M : Nat → Nat → Int} (h : ∀ i j, (Lit.int .u16 (M i j)).wf = true) (i j : Nat) : (Lit.int .u16 (fill m M i j)).wf = true := by
 unfold fill
 split
 ·exact h i j
 ·decide
end Go.Proofs.Ythaiodklfoegiaa.CSame
/- The document's table of masks, in plain words: it is the matrix of what is allowed. -/
namespace Go.Proofs.Ythaiodklfoegiaa.DTab
open Go.RowKit YthaiodklfoegiaaW.PrintWords YthaiodklfoegiaaW.PrintLast YthaiodklfoegiaaW.PrintMore CPure CBits CSame MLines MSide MPol MClose
open PG YthaiodklfoegiaaF
open Classical
theorem rdGet {α : Type} (d : α) (l : List α) (n : Nat) (h : n < l.length) : rdOf d l (n : Int) = l[n] := by simp [rdOf, h]
theorem w64 {i : Int} (h0 : -9223372036854775808 ≤ i) (h1 : i ≤ 9223372036854775807) : wrap64 i = i := by unfold wrap64; omega
theorem w64n {n m : Nat} (h : n < m) (hm : m ≤ 9223372036854775807) : wrap64 ((n : Int) + 1) = ((n + 1 : Nat) : Int) := by unfold wrap64; omega
theorem toList_inj {a b : ByteArray} (h : a.toList = b.toList) : a = b := by
 rw [ByteArray.toList_eq, ByteArray.toList_eq] at h
 exact ByteArray.ext (Array.toList_inj.mp h)
theorem in_l0 (l : List ByteArray) (s : ByteArray) (hl : l.length ≤ 9223372036854775807) : ∀ (d n : Nat), n + d = l.length → Ev (fun k => gatehouseref08_in.l0 k l s n) (decide (s ∈ l.drop n))
 | 0, n, h => by
  rw [List.drop_eq_nil_of_le (by omega)]
  refine Ev.step (f := fun _ => some (decide (s ∈ ([] : List ByteArray)))) (fun k => ?_) (Ev.now _)
  simp only [gatehouseref08_in.l0]
  rw [if_neg (by omega)]
  simp
 | d + 1, n, h => by
  have hlt : n < l.length := by omega
  have hdr : l.drop n = l[n] :: l.drop (n + 1) := List.drop_eq_getElem_cons hlt
  by_cases he : l[n] = s
  ·have e : decide (s ∈ l.drop n) = true := by rw [decide_eq_true_iff, hdr, he]; exact List.mem_cons_self
   rw [e]
   refine Ev.step (f := fun _ => some true) (fun k => ?_) (Ev.now _)
   simp only [gatehouseref08_in.l0]
   rw [if_pos (by omega), if_pos (by omega), rdGet _ _ _ hlt, if_pos (by rw [he])]
  ·have e : decide (s ∈ l.drop n) = decide (s ∈ l.drop (n + 1)) := by
    rw [Bool.eq_iff_iff, decide_eq_true_iff, decide_eq_true_iff, hdr, List.mem_cons]
    exact ⟨fun h => h.resolve_left (fun e => he e.symm), Or.inr⟩
   rw [e]
   refine Ev.step (fun k => ?_) (in_l0 l s hl d (n + 1) (by omega))
   simp only [gatehouseref08_in.l0]
   rw [if_pos (by omega), if_pos (by omega), rdGet _ _ _ hlt, if_neg (fun h => he (toList_inj h)), w64n hlt hl]
theorem in_f (l : List ByteArray) (s : ByteArray) (hl : l.length ≤ 9223372036854775807) : Ev (fun k => gatehouseref08_in.f k l s) (decide (s ∈ l)) := by
 have h := in_l0 l s hl l.length 0 (by omega)
 rw [List.drop_zero] at h
 exact h
structure Up (ps : List S108) (x : ByteArray) (L : List ByteArray) : Prop where
 nodup : L.Nodup
 has : x ∈ L
 reach : ∀ s ∈ L, MClose.Reach ps x s
noncomputable def stepU (L : List ByteArray) (q : S108) : List ByteArray := if q.f0 ∈ L ∧ q.f1 ∉ L then L ++ [q.f1] else L
namespace Up
variable {ps : List S108} {x : ByteArray} {L : List ByteArray}
theorem short (h : Up ps x L) : L.length ≤ ps.length + 1 := by
 have := MPut.nodup_le L (x :: ps.map (·.f1)) h.nodup (fun s hs => by
  rcases reach_in (h.reach s hs) with rfl | h'
  ·simp
  ·exact List.mem_cons_of_mem _ h')
 simpa using this
theorem step (h : Up ps x L) {q : S108} (hq : q ∈ ps) : Up ps x (stepU L q) := by
 unfold stepU
 split
 ·rename_i hc
  refine ⟨?_, List.mem_append_left _ h.has, fun s hs => ?_⟩
  ·rw [List.nodup_append]
   exact ⟨h.nodup, by simp, fun a ha b hb => by rw [List.mem_singleton.1 hb]; exact fun e => hc.2 (e ▸ ha)⟩
  ·rcases List.mem_append.1 hs with hs | hs
   ·exact h.reach s hs
   ·rw [List.mem_singleton.1 hs]
    exact .step (h.reach _ hc.1) hq rfl
 ·exact h
theorem foldl : ∀ {l : List S108} {L : List ByteArray}, (∀ q ∈ l, q ∈ ps) → Up ps x L → Up ps x (l.foldl stepU L)
 | [], _, _, h => h
 | q :: l, _, hl, h => foldl (l := l) (fun r hr => hl r (List.mem_cons_of_mem _ hr)) (h.step (hl q List.mem_cons_self))
end Up
theorem stepU_le (L : List ByteArray) (q : S108) : L.length ≤ (stepU L q).length := by
 unfold stepU; split <;> simp
theorem foldU_le : ∀ (l : List S108) (L : List ByteArray), L.length ≤ (l.foldl stepU L).length
 | [], _ => Nat.le_refl _
 | q :: l, L => Nat.le_trans (stepU_le L q) (foldU_le l (stepU L q))
theorem stepU_fix {L : List ByteArray} {q : S108} (h : (stepU L q).length ≤ L.length) : stepU L q = L ∧ (q.f0 ∈ L → q.f1 ∈ L) := by
 unfold stepU at h ⊢
 split
 ·rename_i hc
  rw [if_pos hc] at h
  simp at h
  omega
 ·rename_i hc
  exact ⟨rfl, fun h0 => Classical.byContradiction fun h1 => hc ⟨h0, h1⟩⟩
theorem foldU_fix : ∀ {l : List S108} {L : List ByteArray}, (l.foldl stepU L).length = L.length → l.foldl stepU L = L ∧ ∀ q ∈ l, q.f0 ∈ L → q.f1 ∈ L
 | [], _, _ => ⟨rfl, fun q hq => by cases hq⟩
 | q :: l, L, h => by
  have h1 := stepU_le L q
  have h2 := foldU_le l (stepU L q)
  simp only [List.foldl_cons] at h ⊢
  obtain ⟨h3, h4⟩ := stepU_fix (L := L) (q := q) (by omega)
  rw [h3] at h ⊢
  obtain ⟨h5, h6⟩ := foldU_fix h
  refine ⟨h5, fun r hr => ?_⟩
  rcases List.mem_cons.1 hr with rfl | hr
  ·exact h4
  ·exact h6 r hr
theorem Up.all {ps : List S108} {x : ByteArray} {L : List ByteArray} (h : Up ps x L) (hc : ∀ q ∈ ps, q.f0 ∈ L → q.f1 ∈ L) (s : ByteArray) : s ∈ L ↔ MClose.Reach ps x s := by
 refine ⟨h.reach s, fun hr => ?_⟩
 induction hr with
 | here => exact h.has
 | step _ hq e ih => subst e; exact hc _ hq ih
section
variable (near far : List S108) (x : ByteArray) (hN : near.length + far.length ≤ 8796093022000)
include hN
theorem ups_j2 (L : List ByteArray) (n0 : Int) (i : Nat) (hi : i < near.length + far.length) (q : S108) (hq : q ∈ near ++ far) (hU : Up (near ++ far) x L) {r : List ByteArray}
  (h : Ev (fun k => gatehouseref08_Ups.l1 k near far (stepU L q) n0 ((i + 1 : Nat) : Int)) r) : Ev (fun k => gatehouseref08_Ups.j2 k near far L n0 i q.f0 q.f1) r := by
 have hs := hU.short
 have hs2 := (hU.step hq).short
 rw [List.length_append] at hs hs2
 refine Ev.step (fun k => by simp only [gatehouseref08_Ups.j2]; rfl) ?_
 refine Ev.bind (in_f L q.f0 (by omega)) ?_
 refine Ev.bind (in_f L q.f1 (by omega)) ?_
 have hw : wrap64 ((i : Int) + 1) = ((i + 1 : Nat) : Int) := w64n (m := near.length + far.length) hi (by omega)
 simp only [decide_eq_true_eq, hw]
 unfold stepU at h hs2
 by_cases h0 : q.f0 ∈ L
 ·by_cases h1 : q.f1 ∈ L
  ·rw [if_neg (by simp [h1])] at h
   simp only [if_pos h0, if_pos h1]
   exact h
  ·rw [if_pos ⟨h0, h1⟩] at h hs2
   simp only [List.length_append, List.length_singleton] at hs2
   simp only [if_pos h0, if_neg h1, if_pos (show L.length < 8796093022208 by omega)]
   exact h
 ·rw [if_neg (by simp [h0])] at h
  simp only [if_neg h0]
  exact h
theorem ups_l1 (n0 : Int) {r : List ByteArray} : ∀ (d i : Nat) (L : List ByteArray), i + d = near.length + far.length → Up (near ++ far) x L →
  Ev (fun k => if ((((near ++ far).drop i).foldl stepU L).length : Int) = n0 then some (((near ++ far).drop i).foldl stepU L) else gatehouseref08_Ups.l0 k near far (((near ++ far).drop i).foldl stepU L)) r →
  Ev (fun k => gatehouseref08_Ups.l1 k near far L n0 i) r
 | 0, i, L, hi, hU, h => by
  rw [List.drop_eq_nil_of_le (by rw [List.length_append]; omega)] at h
  change Ev (fun k => if (L.length : Int) = n0 then some L else gatehouseref08_Ups.l0 k near far L) r at h
  have hw : wrap64 ((near.length : Int) + (far.length : Int)) = ((near.length + far.length : Nat) : Int) := by rw [w64 (by omega) (by omega)]; omega
  refine Ev.step (fun k => ?_) h
  simp only [gatehouseref08_Ups.l1, hw]
  rw [if_neg (by omega)]
 | d + 1, i, L, hi, hU, h => by
  have hlt : i < (near ++ far).length := by rw [List.length_append]; omega
  have hlt' : i < near.length + far.length := by omega
  have hw : wrap64 ((near.length : Int) + (far.length : Int)) = ((near.length + far.length : Nat) : Int) := by rw [w64 (by omega) (by omega)]; omega
  rw [List.drop_eq_getElem_cons hlt] at h
  have hmem : (near ++ far)[i] ∈ near ++ far := List.getElem_mem hlt
  have hj := ups_j2 near far x hN L n0 i hlt' (near ++ far)[i] hmem hU (ups_l1 n0 d (i + 1) (stepU L (near ++ far)[i]) (by omega) (hU.step hmem) h)
  refine Ev.step (fun k => ?_) hj
  simp only [gatehouseref08_Ups.l1, hw]
  rw [if_pos (by omega)]
  by_cases hn : i < near.length
  ·have e : rd_T108 near (i : Int) = (near ++ far)[i] := by simp [rd_T108, hn, List.getElem_append_left]
   rw [if_pos (by omega), if_pos (by omega), e]
  ·have hw2 : wrap64 ((i : Int) - (near.length : Int)) = ((i - near.length : Nat) : Int) := by rw [w64 (by omega) (by omega)]; omega
   have hf : i - near.length < far.length := by omega
   have e : rd_T108 far ((i - near.length : Nat) : Int) = (near ++ far)[i] := by
    rw [List.getElem_append_right (by omega)]
    simp [rd_T108, hf]
   rw [if_neg (by omega), hw2, if_pos (by omega), if_pos (by omega), e]
theorem ups_l0 : ∀ (m : Nat) (L : List ByteArray), near.length + far.length + 1 - L.length ≤ m → Up (near ++ far) x L → ∃ L', Ev (fun k => gatehouseref08_Ups.l0 k near far L) L' ∧ Up (near ++ far) x L' ∧ ∀ q ∈ near ++ far, q.f0 ∈ L' → q.f1 ∈ L' := by
 intro m
 induction m with
 | zero =>
  intro L hm hU
  have h1 := hU.short
  have hF := Up.foldl (l := near ++ far) (fun _ h => h) hU
  have h2 := hF.short
  have h3 := foldU_le (near ++ far) L
  rw [List.length_append] at h1 h2
  obtain ⟨h5, h6⟩ := foldU_fix (l := near ++ far) (L := L) (by omega)
  refine ⟨L, Ev.step (fun k => by simp only [gatehouseref08_Ups.l0]; rfl) (ups_l1 near far x hN _ (near.length + far.length) 0 L (by omega) hU ?_), hU, h6⟩
  rw [List.drop_zero, h5]
  exact Ev.congr (fun k => by rw [if_pos rfl]) (Ev.now L)
 | succ m ih =>
  intro L hm hU
  have hF := Up.foldl (l := near ++ far) (fun _ h => h) hU
  have h3 := foldU_le (near ++ far) L
  by_cases he : ((near ++ far).foldl stepU L).length = L.length
  ·obtain ⟨h5, h6⟩ := foldU_fix he
   refine ⟨L, Ev.step (fun k => by simp only [gatehouseref08_Ups.l0]; rfl) (ups_l1 near far x hN _ (near.length + far.length) 0 L (by omega) hU ?_), hU, h6⟩
   rw [List.drop_zero, h5]
   exact Ev.congr (fun k => by rw [if_pos rfl]) (Ev.now L)
  ·obtain ⟨L', h7, h8, h9⟩ := ih ((near ++ far).foldl stepU L) (by omega) hF
   refine ⟨L', Ev.step (fun k => by simp only [gatehouseref08_Ups.l0]; rfl) (ups_l1 near far x hN _ (near.length + far.length) 0 L (by omega) hU ?_), h8, h9⟩
   rw [List.drop_zero]
   exact Ev.congr (fun k => by rw [if_neg (by omega)]) h7
theorem ups_f : ∃ L, Ev (fun k => gatehouseref08_Ups.f k near far x) L ∧ (∀ s, s ∈ L ↔ MClose.Reach (near ++ far) x s) ∧ L.length ≤ near.length + far.length + 1 := by
 obtain ⟨L, h1, h2, h3⟩ := ups_l0 near far x hN (near.length + far.length + 1) [x] (by omega) ⟨by simp, by simp, fun s hs => by rw [List.mem_singleton.1 hs]; exact .here⟩
 have := h2.short
 rw [List.length_append] at this
 exact ⟨L, h1, h2.all h3, this⟩
end
theorem passes_f (r : S78) (tr : Nat) : gatehouseref08_Passes.f r.f0 r.f1 r.f2 r.f3 r.f4 r.f5 tr = some (passB r tr) := by
 unfold gatehouseref08_Passes.f passB
 by_cases h0 : r.f4 = 0
 ·simp [h0]
 ·by_cases h1 : r.f4 = 1
  ·simp only [h1]
   by_cases h2 : flt_ge tr r.f5 = true
   ·simp [h2]
   ·simp [h2]
  ·by_cases h2 : r.f4 = 2
   ·simp [h2]
   ·simp [h0, h1, h2]
theorem trust_l0 (d : PolD) (s : ByteArray) (hl : d.subs.length ≤ 9223372036854775807) : ∀ (m n : Nat), n + m = d.subs.length →
  Ev (fun k => gatehouseref08_Trust.l0 k s n d.acts d.subs d.roles d.objs d.grps d.mem d.inh d.par d.wit d.rules d.exc)
   (((((d.subs.drop n).find? (fun x => decide (x.f0 = s))).map (·.f1)).getD 0), (((d.subs.drop n).find? (fun x => decide (x.f0 = s))).map (·.f1)).isSome)
 | 0, n, h => by
  rw [List.drop_eq_nil_of_le (by omega)]
  refine Ev.step (f := fun _ => some (0, false)) (fun k => ?_) (Ev.now _)
  simp only [gatehouseref08_Trust.l0]
  rw [if_neg (by omega)]
 | m + 1, n, h => by
  have hlt : n < d.subs.length := by omega
  have hrd : rd_T54 d.subs (n : Int) = d.subs[n] := by simp [rd_T54, hlt]
  rw [List.drop_eq_getElem_cons hlt, List.find?_cons]
  by_cases he : d.subs[n].f0 = s
  ·simp only [he, decide_true]
   refine Ev.step (f := fun _ => some (d.subs[n].f1, true)) (fun k => ?_) (Ev.now _)
   simp only [gatehouseref08_Trust.l0]
   rw [if_pos (by omega), if_pos (by omega), hrd, if_pos (by rw [he])]
  ·simp only [he, decide_false]
   refine Ev.step (fun k => ?_) (trust_l0 d s hl m (n + 1) (by omega))
   simp only [gatehouseref08_Trust.l0]
   rw [if_pos (by omega), if_pos (by omega), hrd, if_neg (fun h => he (toList_inj h)), w64n hlt hl]
theorem trust_f (d : PolD) (s : ByteArray) (hl : d.subs.length ≤ 9223372036854775807) :
  Ev (fun k => gatehouseref08_Trust.f k d.acts d.subs d.roles d.objs d.grps d.mem d.inh d.par d.wit d.rules d.exc s) ((d.trust s).getD 0, (d.trust s).isSome) := by
 have h := trust_l0 d s hl d.subs.length 0 (by omega)
 rw [List.drop_zero] at h
 exact h
noncomputable def aboutB (r : S78) (whos whats : List ByteArray) (tr : Nat) : Bool := decide (r.f1 ∈ whos) && (decide (r.f2 ∈ whats) && passB r tr)
theorem about_f (r : S78) (whos whats : List ByteArray) (tr : Nat) (h1 : whos.length ≤ 9223372036854775807) (h2 : whats.length ≤ 9223372036854775807) :
  Ev (fun k => gatehouseref08_about.f k r.f0 r.f1 r.f2 r.f3 r.f4 r.f5 whos tr whats) (aboutB r whos whats tr) := by
 unfold gatehouseref08_about.f aboutB
 refine Ev.bind (in_f whos r.f1 h1) (Ev.bind (in_f whats r.f2 h2) ?_)
 rw [passes_f]
 simp only [Option.bind_some, decide_eq_true_eq]
 by_cases h3 : r.f1 ∈ whos
 ·by_cases h4 : r.f2 ∈ whats
  ·simp only [if_pos h3, if_pos h4, h3, h4, decide_true, Bool.true_and]; exact Ev.now _
  ·simp only [if_pos h3, if_neg h4, h3, h4, decide_true, decide_false, Bool.true_and, Bool.false_and]; exact Ev.now _
 ·simp only [if_neg h3, h3, decide_false, Bool.false_and]; exact Ev.now _
theorem one_l0 (d : PolD) (hd : d.rules.length ≤ 1759218604390) (whos whats : List ByteArray) (tr : Nat) (h1 : whos.length ≤ 9223372036854775807) (h2 : whats.length ≤ 9223372036854775807) : ∀ (m n : Nat) (acc : List S78), n + m = d.rules.length → acc.length ≤ n →
  Ev (fun k => gatehouseref08_one.l0 k whos tr whats acc n d.acts d.subs d.roles d.objs d.grps d.mem d.inh d.par d.wit d.rules d.exc) (acc ++ (d.rules.drop n).filter (fun r => aboutB r whos whats tr))
 | 0, n, acc, h, _ => by
  rw [List.drop_eq_nil_of_le (by omega), List.filter_nil, List.append_nil]
  refine Ev.step (f := fun _ => some acc) (fun k => ?_) (Ev.now _)
  simp only [gatehouseref08_one.l0]
  rw [if_neg (by omega)]
 | m + 1, n, acc, h, ha => by
  have hlt : n < d.rules.length := by omega
  have hrd : rd_T78 d.rules (n : Int) = d.rules[n] := by simp [rd_T78, hlt]
  rw [List.drop_eq_getElem_cons hlt, List.filter_cons]
  refine Ev.step (f := fun k => (gatehouseref08_about.f k d.rules[n].f0 d.rules[n].f1 d.rules[n].f2 d.rules[n].f3 d.rules[n].f4 d.rules[n].f5 whos tr whats).bind fun t194 => if t194 = true then gatehouseref08_one.l0 k whos tr whats (acc ++ [d.rules[n]]) ((n + 1 : Nat) : Int) d.acts d.subs d.roles d.objs d.grps d.mem d.inh d.par d.wit d.rules d.exc else gatehouseref08_one.l0 k whos tr whats acc ((n + 1 : Nat) : Int) d.acts d.subs d.roles d.objs d.grps d.mem d.inh d.par d.wit d.rules d.exc) (fun k => ?_) ?_
  ·simp only [gatehouseref08_one.l0]
   rw [if_pos (by omega), if_pos (by omega), hrd, w64n hlt (by omega)]
   congr 1
   funext t
   cases t
   ·simp
   ·simp only [if_true]
    rw [if_pos (by omega)]
  ·refine Ev.bind (f := fun k t194 => if t194 = true then gatehouseref08_one.l0 k whos tr whats (acc ++ [d.rules[n]]) ((n + 1 : Nat) : Int) d.acts d.subs d.roles d.objs d.grps d.mem d.inh d.par d.wit d.rules d.exc else gatehouseref08_one.l0 k whos tr whats acc ((n + 1 : Nat) : Int) d.acts d.subs d.roles d.objs d.grps d.mem d.inh d.par d.wit d.rules d.exc) (about_f d.rules[n] whos whats tr h1 h2) ?_
   by_cases hb : aboutB d.rules[n] whos whats tr = true
   ·simp only [if_pos hb]
    have := one_l0 d hd whos whats tr h1 h2 m (n + 1) (acc ++ [d.rules[n]]) (by omega) (by simp; omega)
    rw [List.append_assoc] at this
    exact this
   ·simp only [if_neg hb]
    exact one_l0 d hd whos whats tr h1 h2 m (n + 1) acc (by omega) (by omega)
theorem one_f (d : PolD) (hd : d.rules.length ≤ 1759218604390) (whos whats : List ByteArray) (tr : Nat) (h1 : whos.length ≤ 9223372036854775807) (h2 : whats.length ≤ 9223372036854775807) :
  Ev (fun k => gatehouseref08_one.f k d.acts d.subs d.roles d.objs d.grps d.mem d.inh d.par d.wit d.rules d.exc whos tr whats) (d.rules.filter (fun r => aboutB r whos whats tr)) := by
 have h := one_l0 d hd whos whats tr h1 h2 d.rules.length 0 [] (by omega) (by simp)
 rw [List.drop_zero, List.nil_append] at h
 exact h
theorem exc_l0 (d : PolD) (t : S28) (hl : d.exc.length ≤ 9223372036854775807) : ∀ (m n : Nat), n + m = d.exc.length →
  ∃ b, Ev (fun k => gatehouseref08_excepted.l0 k n d.acts d.subs d.roles d.objs d.grps d.mem d.inh d.par d.wit d.rules d.exc t.f0 t.f1 t.f2) b ∧ (b = true ↔ t ∈ d.exc.drop n)
 | 0, n, h => by
  rw [List.drop_eq_nil_of_le (by omega)]
  refine ⟨false, Ev.step (f := fun _ => some false) (fun k => ?_) (Ev.now _), by simp⟩
  simp only [gatehouseref08_excepted.l0]
  rw [if_neg (by omega)]
 | m + 1, n, h => by
  have hlt : n < d.exc.length := by omega
  have hrd : rd_T28 d.exc (n : Int) = d.exc[n] := by simp [rd_T28, hlt]
  have hdr : d.exc.drop n = d.exc[n] :: d.exc.drop (n + 1) := List.drop_eq_getElem_cons hlt
  by_cases he : t = d.exc[n]
  ·refine ⟨true, Ev.step (f := fun _ => some true) (fun k => ?_) (Ev.now _), by rw [hdr, he]; exact ⟨fun _ => List.mem_cons_self, fun _ => rfl⟩⟩
   simp only [gatehouseref08_excepted.l0]
   rw [if_pos (by omega), if_pos (by omega), hrd, if_pos (by rw [← he]; simp)]
  ·obtain ⟨b, h1, h2⟩ := exc_l0 d t hl m (n + 1) (by omega)
   refine ⟨b, Ev.step (fun k => ?_) h1, by rw [h2, hdr, List.mem_cons]; simp [he]⟩
   have hne : ¬ ((d.exc[n].f0.toList == t.f0.toList && (d.exc[n].f1.toList == t.f1.toList && (d.exc[n].f2.toList == t.f2.toList))) = true) := by
    rw [beq_str, beq_str, beq_str]
    simp only [Bool.and_eq_true, decide_eq_true_eq]
    rintro ⟨a, b, c⟩
    refine he ?_
    cases t; cases hx : d.exc[n]; rw [hx] at a b c; simp only at a b c; subst a; subst b; subst c; rfl
   simp only [gatehouseref08_excepted.l0]
   rw [if_pos (by omega), if_pos (by omega), hrd, if_neg hne, w64n hlt hl]
theorem exc_f (d : PolD) (t : S28) (hl : d.exc.length ≤ 9223372036854775807) :
  ∃ b, Ev (fun k => gatehouseref08_excepted.f k d.acts d.subs d.roles d.objs d.grps d.mem d.inh d.par d.wit d.rules d.exc t.f0 t.f1 t.f2) b ∧ (b = true ↔ t ∈ d.exc) := by
 obtain ⟨b, h1, h2⟩ := exc_l0 d t hl d.exc.length 0 (by omega)
 rw [List.drop_zero] at h2
 exact ⟨b, h1, h2⟩
theorem may_l0 (d : PolD) (t : S28) (hl : d.exc.length ≤ 9223372036854775807) (L : List S78) (hL : L.length ≤ 9223372036854775807) (hf : ∀ r ∈ L, r.f3.length ≤ 9223372036854775807) : ∀ (m n : Nat) (yes : Bool), n + m = L.length →
  ∃ b, Ev (fun k => gatehouseref08_may.l0 k L yes n d.acts d.subs d.roles d.objs d.grps d.mem d.inh d.par d.wit d.rules d.exc t.f0 t.f1 t.f2) b ∧
   (b = true ↔ ((yes = true ∨ ∃ r ∈ L.drop n, namesP r t.f2) ∧ ∀ r ∈ L.drop n, namesP r t.f2 → r.f0 = false) ∧ t ∉ d.exc)
 | 0, n, yes, h => by
  rw [List.drop_eq_nil_of_le (by omega)]
  obtain ⟨b, h1, h2⟩ := exc_f d t hl
  refine ⟨yes && !b, Ev.step (f := fun k => (gatehouseref08_excepted.f k d.acts d.subs d.roles d.objs d.grps d.mem d.inh d.par d.wit d.rules d.exc t.f0 t.f1 t.f2).bind fun b => some (yes && !b)) (fun k => ?_) (Ev.bind (f := fun _ b => some (yes && !b)) h1 (Ev.now _)), ?_⟩
  ·simp only [gatehouseref08_may.l0]
   rw [if_neg (by omega)]
   congr 1
   funext t
   cases yes <;> simp
  ·rw [Bool.and_eq_true, Bool.not_eq_true', ← Bool.not_eq_true, h2]
   simp
 | m + 1, n, yes, h => by
  have hlt : n < L.length := by omega
  have hrd : rd_T78 L (n : Int) = L[n] := by simp [rd_T78, hlt]
  have hdr : L.drop n = L[n] :: L.drop (n + 1) := List.drop_eq_getElem_cons hlt
  have hin := in_f L[n].f3 t.f2 (hf _ (List.getElem_mem hlt))
  have hj : ∀ (c : Bool) {b : Bool}, Ev (fun k => gatehouseref08_may.j1 k L yes n c d.acts d.subs d.roles d.objs d.grps d.mem d.inh d.par d.wit d.rules d.exc t.f0 t.f1 t.f2) b → (c = true ↔ namesP L[n] t.f2) →
    Ev (fun k => gatehouseref08_may.l0 k L yes n d.acts d.subs d.roles d.objs d.grps d.mem d.inh d.par d.wit d.rules d.exc t.f0 t.f1 t.f2) b := by
   intro c b hb hc
   refine Ev.step (f := fun k => (gatehouseref08_in.f k L[n].f3 t.f2).bind fun t206 => if t206 = true then gatehouseref08_may.j1 k L yes n true d.acts d.subs d.roles d.objs d.grps d.mem d.inh d.par d.wit d.rules d.exc t.f0 t.f1 t.f2 else gatehouseref08_may.j1 k L yes n ((L[n].f3.length : Int) == 0) d.acts d.subs d.roles d.objs d.grps d.mem d.inh d.par d.wit d.rules d.exc t.f0 t.f1 t.f2) (fun k => ?_) ?_
   ·simp only [gatehouseref08_may.l0]
    rw [if_pos (by omega), if_pos (by omega), hrd]
   ·refine Ev.bind (f := fun k t206 => if t206 = true then gatehouseref08_may.j1 k L yes n true d.acts d.subs d.roles d.objs d.grps d.mem d.inh d.par d.wit d.rules d.exc t.f0 t.f1 t.f2 else gatehouseref08_may.j1 k L yes n ((L[n].f3.length : Int) == 0) d.acts d.subs d.roles d.objs d.grps d.mem d.inh d.par d.wit d.rules d.exc t.f0 t.f1 t.f2) hin ?_
    simp only [decide_eq_true_eq]
    by_cases h1 : t.f2 ∈ L[n].f3
    ·have : c = true := hc.2 (Or.inr h1)
     subst this
     simp only [if_pos h1]
     exact hb
    ·have : ((L[n].f3.length : Int) == 0) = c := by
      rw [Bool.eq_iff_iff, hc, beq_iff_eq]
      unfold namesP
      constructor
      ·intro e; exact Or.inl (List.eq_nil_of_length_eq_zero (by omega))
      ·rintro (e | e)
       ·rw [e]; rfl
       ·exact absurd e h1
     simp only [if_neg h1, this]
     exact hb
  by_cases hn : namesP L[n] t.f2
  ·cases hdn : L[n].f0 with
   | true =>
    refine ⟨false, hj true (Ev.step (f := fun _ => some false) (fun k => ?_) (Ev.now _)) (by simp [hn]), ?_⟩
    ·simp only [gatehouseref08_may.j1]
     rw [if_pos trivial, if_pos (by omega), if_pos (by omega), hrd, if_pos hdn]
    ·constructor
     ·intro h; cases h
     ·rintro ⟨⟨_, h4⟩, _⟩
      have := h4 L[n] (by rw [hdr]; exact List.mem_cons_self) hn
      rw [hdn] at this; cases this
   | false =>
    obtain ⟨b, h1, h2⟩ := may_l0 d t hl L hL hf m (n + 1) true (by omega)
    refine ⟨b, hj true (Ev.step (fun k => ?_) h1) (by simp [hn]), ?_⟩
    ·simp only [gatehouseref08_may.j1]
     rw [if_pos trivial, if_pos (by omega), if_pos (by omega), hrd, if_neg (by rw [hdn]; simp), w64n hlt hL]
    ·rw [h2, hdr]
     constructor
     ·rintro ⟨⟨_, h4⟩, h5⟩
      refine ⟨⟨Or.inr ⟨L[n], List.mem_cons_self, hn⟩, fun r hr hnr => ?_⟩, h5⟩
      rcases List.mem_cons.1 hr with rfl | hr
      ·exact hdn
      ·exact h4 r hr hnr
     ·rintro ⟨⟨_, h4⟩, h5⟩
      exact ⟨⟨Or.inl rfl, fun r hr hnr => h4 r (List.mem_cons_of_mem _ hr) hnr⟩, h5⟩
  ·obtain ⟨b, h1, h2⟩ := may_l0 d t hl L hL hf m (n + 1) yes (by omega)
   refine ⟨b, hj false (Ev.step (fun k => ?_) h1) (by simp [hn]), ?_⟩
   ·simp only [gatehouseref08_may.j1]
    rw [if_neg (by simp), w64n hlt hL]
   ·rw [h2, hdr]
    constructor
    ·rintro ⟨⟨h3, h4⟩, h5⟩
     refine ⟨⟨h3.imp_right (fun ⟨r, hr, hnr⟩ => ⟨r, List.mem_cons_of_mem _ hr, hnr⟩), fun r hr hnr => ?_⟩, h5⟩
     rcases List.mem_cons.1 hr with rfl | hr
     ·exact absurd hnr hn
     ·exact h4 r hr hnr
    ·rintro ⟨⟨h3, h4⟩, h5⟩
     refine ⟨⟨h3.imp_right (fun ⟨r, hr, hnr⟩ => ?_), fun r hr hnr => h4 r (List.mem_cons_of_mem _ hr) hnr⟩, h5⟩
     rcases List.mem_cons.1 hr with rfl | hr
     ·exact absurd hnr hn
     ·exact ⟨r, hr, hnr⟩
theorem may_f (d : PolD) (t : S28) (hl : d.exc.length ≤ 9223372036854775807) (L : List S78) (hL : L.length ≤ 9223372036854775807) (hf : ∀ r ∈ L, r.f3.length ≤ 9223372036854775807) :
  Ev (fun k => gatehouseref08_may.f k d.acts d.subs d.roles d.objs d.grps d.mem d.inh d.par d.wit d.rules d.exc L t.f0 t.f1 t.f2) (allowsF L d.exc t) := by
 obtain ⟨b, h1, h2⟩ := may_l0 d t hl L hL hf L.length 0 false (by omega)
 have e : allowsF L d.exc t = b := by
  rw [Bool.eq_iff_iff, h2, List.drop_zero]
  unfold allowsF
  rw [decide_eq_true_iff]
  constructor
  ·rintro ⟨⟨h3, h4⟩, h5⟩
   exact ⟨⟨Or.inr h3, h4⟩, h5⟩
  ·rintro ⟨⟨h3, h4⟩, h5⟩
   exact ⟨⟨h3.resolve_left (by simp), h4⟩, h5⟩
 rw [e]
 exact h1
noncomputable def rowD (d : PolD) (i : Nat) : List Int := (List.range d.objs.length).map (matD d i)
noncomputable def tabD (d : PolD) : List (List Int) := (List.range d.subs.length).map (rowD d)
structure Fit (d : PolD) : Prop where
 ok : d.Ok
 subs : d.subs.length ≤ 64
 objs : d.objs.length ≤ 64
 acts : d.acts.length ≤ 16
 exc : d.exc.length ≤ 9223372036854775807
 each : ∀ r ∈ d.rules, r.f3.length ≤ 9223372036854775807
theorem tab_bits {d : PolD} {i j : Nat} (hi : i < d.subs.length) (hj : j < d.objs.length) (whos whats : List ByteArray) (hw : ∀ s, s ∈ whos ↔ d.who d.subs[i].f0 s) (ht : ∀ s, s ∈ whats ↔ d.what d.objs[j] s) :
  ∃ f : Nat → Bool, (∀ k, (h : k < d.acts.length) → f k = allowsF (d.rules.filter (fun r => aboutB r whos whats ((d.trust d.subs[i].f0).getD 0))) d.exc ⟨d.subs[i].f0, d.objs[j], d.acts[k]⟩) ∧ ((maskN f d.acts.length : Nat) : Int) = matD d i j := by
 have hsp : d.rules.filter (fun r => aboutB r whos whats ((d.trust d.subs[i].f0).getD 0)) = d.speak d.subs[i].f0 d.objs[j] ((d.trust d.subs[i].f0).getD 0) := by
  unfold PolD.speak
  refine List.filter_congr fun r _ => ?_
  unfold aboutB speaksB
  congr 1
  ·rw [Bool.eq_iff_iff, decide_eq_true_iff, decide_eq_true_iff]; exact hw r.f1
  ·congr 1
   rw [Bool.eq_iff_iff, decide_eq_true_iff, decide_eq_true_iff]; exact ht r.f2
 have htr : (d.trust d.subs[i].f0).isSome = true := by
  unfold PolD.trust
  rw [Option.isSome_map, List.find?_isSome]
  exact ⟨d.subs[i], List.getElem_mem hi, by simp⟩
 refine ⟨fun k => match d.acts[k]? with | some a => d.allowB ⟨d.subs[i].f0, d.objs[j], a⟩ | none => false, fun k hk => ?_, ?_⟩
 ·simp only [List.getElem?_eq_getElem hk]
  rw [hsp]
  unfold PolD.allowB
  simp only [htr, Bool.true_and]
  rw [decide_eq_true (List.getElem_mem hj), decide_eq_true (List.getElem_mem hk)]
  rfl
 ·unfold matD maskD
  have e1 : (d.subs.map (·.f0)).getD i ⟨#[]⟩ = d.subs[i].f0 := by simp [hi]
  have e2 : d.objs.getD j ⟨#[]⟩ = d.objs[j] := by simp [hj]
  rw [e1, e2] <;> rfl
end Go.Proofs.Ythaiodklfoegiaa.DTab
/- The document's Valid in plain words. -/
namespace Go.Proofs.Ythaiodklfoegiaa.VPure
open Go.RowKit PG YthaiodklfoegiaaW.PrintWords YthaiodklfoegiaaW.PrintMore
open Classical
def column (ms : List (List Int)) (j : Nat) : List Int := ms.map (·.getD j 0)
def cols (ms : List (List Int)) (m : Nat) : List (List Int) := (List.range m).map (column ms)
section
variable (la ls lo : List ByteArray) (of on : List Int) (ms : List (List Int))
theorem equal_ev (a b : List Int) (hl : a.length = b.length) (hb : a.length ≤ 9223372036854775807) : ∀ (d n : Nat), n + d = a.length → a.take n = b.take n → Ev (fun k => gatehouseref11_equal.l0 k a b n) (decide (a = b))
 | 0, n, h, hn => by
  refine Ev.step (f := fun _ => some true) (fun k => ?_) ?_
  ·simp only [gatehouseref11_equal.l0]
   rw [if_neg (by omega)]
  ·rw [List.take_of_length_le (by omega), List.take_of_length_le (by omega)] at hn
   rw [decide_eq_true hn]; exact Ev.now _
 | d + 1, n, h, hn => by
  have ha : n < a.length := by omega
  have hb' : n < b.length := by omega
  by_cases he : a[n] = b[n]
  ·refine Ev.step (fun k => ?_) (equal_ev a b hl hb d (n + 1) (by omega) ?_)
   ·simp only [gatehouseref11_equal.l0]
    rw [if_pos (by omega), if_pos (by omega), if_pos (by omega), rd_get _ _ ha, rd_get _ _ hb', if_pos he, w64n ha hb]
   ·rw [List.take_succ_eq_append_getElem ha, List.take_succ_eq_append_getElem hb', hn, he]
  ·refine Ev.step (f := fun _ => some false) (fun k => ?_) ?_
   ·simp only [gatehouseref11_equal.l0]
    rw [if_pos (by omega), if_pos (by omega), if_pos (by omega), rd_get _ _ ha, rd_get _ _ hb', if_neg he]
   ·rw [decide_eq_false (by rintro rfl; exact he rfl)]; exact Ev.now _
theorem equal_f (a b : List Int) (hb : a.length ≤ 9223372036854775807) : Ev (fun k => gatehouseref11_equal.f k a b) (decide (a = b)) := by
 by_cases h : a.length = b.length
 ·refine Ev.congr (fun k => ?_) (equal_ev a b h hb a.length 0 (by omega) (by simp))
  unfold gatehouseref11_equal.f
  rw [if_pos (by omega)]; rfl
 ·refine Ev.congr (f := fun _ => some false) (fun k => ?_) ?_
  ·unfold gatehouseref11_equal.f
   rw [if_neg (by omega)]
  ·rw [decide_eq_false (by rintro rfl; exact h rfl)]; exact Ev.now _
theorem column_ev (j : Nat) (hm : ms.length ≤ 64) (hj : ∀ row ∈ ms, j < row.length) : ∀ (d n : Nat), n + d = ms.length → Ev (fun k => gatehouseref11_column.l0 k ms j (column (ms.take n) j) n) (column ms j)
 | 0, n, h => by
  rw [List.take_of_length_le (by omega)]
  refine Ev.step (f := fun _ => some _) (fun k => ?_) (Ev.now _)
  simp only [gatehouseref11_column.l0]
  rw [if_neg (by omega)]
 | d + 1, n, h => by
  have hlt : n < ms.length := by omega
  have hr := hj ms[n] (List.getElem_mem hlt)
  refine Ev.step (fun k => ?_) (column_ev j hm hj d (n + 1) (by omega))
  simp only [gatehouseref11_column.l0]
  rw [if_pos (by omega), if_pos (by omega), if_pos (by omega), rd_L3_get _ _ hlt, if_pos (by omega), if_pos (by simp [column]; omega), rd_get _ _ hr, w64n hlt (by omega)]
  have e : column (ms.take (n + 1)) j = column (ms.take n) j ++ [ms[n][j]] := by
   rw [List.take_succ_eq_append_getElem hlt]
   simp only [column, List.map_append, List.map_cons, List.map_nil]
   simp [hr]
  rw [e]
theorem column_f (j : Nat) (hm : ms.length ≤ 64) (hj : ∀ row ∈ ms, j < row.length) : Ev (fun k => gatehouseref11_column.f k ms j) (column ms j) := column_ev ms j hm hj ms.length 0 (by omega)
end
end Go.Proofs.Ythaiodklfoegiaa.VPure
/- graph.Valid, walked. -/
namespace Go.Proofs.Ythaiodklfoegiaa.GValid
open Go.RowKit YthaiodklfoegiaaW.PrintWords YthaiodklfoegiaaW.PrintLast YthaiodklfoegiaaW.PrintMore BMap BRow GDiffer VPure Go.Maps
theorem once_any (A : Option Addr) (c : Nat) (l : List ByteArray) (w : World) (hC : Kd.C Kd.string w A l.length l) (hc : l.length ≤ c) :
  Calls Try.prog 33 #[.slice A l.length c] w fun e w' => e = .returned (.bool (onceB l)) ∧ Drawn0 w w' :=
 let ⟨k, hk⟩ := (once_f l hC.2.1).rounds
 PG.graph_once.calls k A c l _ w hC hc hk
structure G where
 A0 : Option Addr
 c0 : Nat
 la : List ByteArray
 A1 : Option Addr
 c1 : Nat
 ls : List ByteArray
 A2 : Option Addr
 c2 : Nat
 lo : List ByteArray
 A3 : Option Addr
 c3 : Nat
 of : List Int
 A4 : Option Addr
 c4 : Nat
 on : List Int
 A5 : Option Addr
 c5 : Nat
 ms : List (List Int)
def G.val (g : G) : Value := .agg #[.slice g.A0 g.la.length g.c0, .slice g.A1 g.ls.length g.c1, .slice g.A2 g.lo.length g.c2, .slice g.A3 g.of.length g.c3, .slice g.A4 g.on.length g.c4, .slice g.A5 g.ms.length g.c5]
structure G.In (g : G) (w : World) : Prop where
 h0 : Kd.C Kd.string w g.A0 g.la.length g.la
 h1 : Kd.C Kd.string w g.A1 g.ls.length g.ls
 h2 : Kd.C Kd.string w g.A2 g.lo.length g.lo
 h3 : Kd.C (Kd.int .i64) w g.A3 g.of.length g.of
 h4 : Kd.C (Kd.int .i64) w g.A4 g.on.length g.on
 h5 : Kd.C (Kd.slice 31 (Kd.int .u16)) w g.A5 g.ms.length g.ms
 l0 : g.la.length ≤ g.c0
 l1 : g.ls.length ≤ g.c1
 l2 : g.lo.length ≤ g.c2
 l3 : g.of.length ≤ g.c3
 l4 : g.on.length ≤ g.c4
 l5 : g.ms.length ≤ g.c5
 u16 : ∀ row ∈ g.ms, ∀ x ∈ row, (Lit.int .u16 x).wf = true
theorem G.In.below {g : G} {w w1 : World} (h : g.In w) (hb : Below w.heap.size w w1) : g.In w1 :=
 ⟨Kd.C_below h.h0 hb, Kd.C_below h.h1 hb, Kd.C_below h.h2 hb, Kd.C_below h.h3 hb, Kd.C_below h.h4 hb, Kd.C_below h.h5 hb, h.l0, h.l1, h.l2, h.l3, h.l4, h.l5, h.u16⟩
theorem G.In.alloc {g : G} {w : World} (h : g.In w) (o : Obj) : g.In (w.alloc o) := h.below (below_alloc (Below.refl _ _) o)
theorem G.In.drewN {g : G} {w : World} (h : g.In w) (n : Nat) : g.In (w.drewN n) := h.below (pw_below_drewN (Below.refl _ _) n)
theorem G.In.drew {g : G} {w : World} (h : g.In w) : g.In w.drew := h.below (below_drew (Below.refl _ _))
theorem once_go (A : Option Addr) (c : Nat) (l : List ByteArray) (w : World) (r : Bool) (hr : onceB l = r) (hC : Kd.C Kd.string w A l.length l) (hc : l.length ≤ c) :
  Calls Try.prog 33 #[.slice A l.length c] w fun e w' => e = .returned (.bool r) ∧ Drawn0 w w' := by
 subst hr; exact once_any A c l w hC hc
def G.cells (g : G) : Array Value := #[.slice g.A0 g.la.length g.c0, .slice g.A1 g.ls.length g.c1, .slice g.A2 g.lo.length g.c2, .slice g.A3 g.ls.length g.c3, .slice g.A4 g.lo.length g.c4, .slice g.A5 g.ms.length g.c5]
structure Boxed (g : G) (w w1 : World) : Prop where
 below : Below w.heap.size w w1
 box : w1.heap[w.heap.size]? = some (.cells g.cells 26 (0, 0))
theorem Boxed.start (g : G) (w : World) (n : Nat) : Boxed g w ((w.alloc (.cells g.cells 26)).drewN n) := ⟨pw_below_drewN ((Below.refl _ _).alloc (Nat.le_refl _) _) _, by simp only [World.heap_drewN]; exact heap_alloc_new w _⟩
theorem Boxed.go {g : G} {w w1 w2 : World} (h : Boxed g w w1) (hb : Below w1.heap.size w1 w2) : Boxed g w w2 := by
 have hlt := (Array.getElem?_eq_some_iff.1 h.box).1
 exact ⟨h.below.trans (hb.mono (Nat.le_of_lt hlt)), by rw [hb.block _ hlt]; exact h.box⟩
theorem Boxed.cell {g : G} {w w1 : World} (h : Boxed g w w1) (j : Nat) : w1.cell? ⟨w.heap.size, j, none⟩ = g.cells[j]? := by
 rw [cell_of_row _ _ _ _ _ _ h.box]
theorem Boxed.c0 {g : G} {w w1 : World} (h : Boxed g w w1) : w1.cell? ⟨w.heap.size, 0, none⟩ = some (.slice g.A0 g.la.length g.c0) := h.cell 0
theorem Boxed.c1 {g : G} {w w1 : World} (h : Boxed g w w1) : w1.cell? ⟨w.heap.size, 1, none⟩ = some (.slice g.A1 g.ls.length g.c1) := h.cell 1
theorem Boxed.c2 {g : G} {w w1 : World} (h : Boxed g w w1) : w1.cell? ⟨w.heap.size, 2, none⟩ = some (.slice g.A2 g.lo.length g.c2) := h.cell 2
theorem Boxed.c3 {g : G} {w w1 : World} (h : Boxed g w w1) : w1.cell? ⟨w.heap.size, 3, none⟩ = some (.slice g.A3 g.ls.length g.c3) := h.cell 3
theorem Boxed.c4 {g : G} {w w1 : World} (h : Boxed g w w1) : w1.cell? ⟨w.heap.size, 4, none⟩ = some (.slice g.A4 g.lo.length g.c4) := h.cell 4
theorem Boxed.c5 {g : G} {w w1 : World} (h : Boxed g w w1) : w1.cell? ⟨w.heap.size, 5, none⟩ = some (.slice g.A5 g.ms.length g.c5) := h.cell 5
end Go.Proofs.Ythaiodklfoegiaa.GValid
/- A graph whose lists are its holder's own, apart from one another. -/
namespace Go.Proofs.Ythaiodklfoegiaa.OBase
open Go.RowKit YthaiodklfoegiaaW.PrintWords YthaiodklfoegiaaW.PrintLast YthaiodklfoegiaaW.PrintMore CSame GValid MSide MPol Go.Maps
open PG
def Ap (u v : Value) : Prop := ∀ k, u.ownBlock = some k → v.ownBlock ≠ some k
theorem Ap.symm {u v : Value} (h : Ap u v) : Ap v u := fun k hk e => h k e hk
theorem Ap.nil (v : Value) : Ap (.slice none 0 0) v := fun k hk => by simp [Value.ownBlock] at hk
section
variable {α β : Type} {d : Kd α} {d' : Kd β} {e e' base base' t g : Nat} {w w1 W : World} {ok ok' : Nat → Prop} {u v : Value} {xs : List α} {ys : List β}
theorem ap_new (h : d.R e w base ok u xs) (h' : d'.R e' w1 w.heap.size ok' v ys) : Ap u v := fun k hk e => by
 have h1 := Kd.R_lt h k hk
 have h2 := Kd.R_base h' k e
 omega
theorem ap_lt {B : Nat} (h : ∀ k, u.ownBlock = some k → k < B) (h' : ∀ k, v.ownBlock = some k → B ≤ k) : Ap u v := fun k hk e => by
 have h1 := h k hk
 have h2 := h' k e
 omega
theorem ap_types (h : d.R e w base ok u xs) (h' : d'.R e' w base' ok' v ys) (hne : e ≠ e') : Ap u v := fun k hk hv => by
 obtain ⟨i, ho⟩ := Kd.R_own h
 obtain ⟨i', ho'⟩ := Kd.R_own h'
 obtain ⟨c, hc⟩ := own_typed ho k hk
 obtain ⟨c', hc'⟩ := own_typed ho' k hv
 rw [hc] at hc'
 injection hc' with hc'
 injection hc' with _ h2
 exact hne h2
theorem R_stay (hE : d.E = []) (h : d.R e w base ok v xs) (hm : ∀ k, v.ownBlock = some k → k < w.heap.size → w1.heap[k]? = w.heap[k]?) : d.R e w1 base ok v xs :=
 Kd.R_reok hE (Kd.R_step (Kd.R_tight hE h) (fun k hk hlt => hm k hk.symm hlt)) (fun k hk => h.1 k hk)
theorem R_ok (hE : d.E = []) (h : d.R e w base ok v xs) (hm : ∀ k, v.ownBlock = some k → ok' k) : d.R e w base ok' v xs := Kd.R_reok hE h hm
end
structure Rws (w : World) (base : Nat) (hs : List Value) (ms : List (List Int)) : Prop where
 len : hs.length = ms.length
 each : ∀ (i : Nat) (h : Value) (r : List Int), hs[i]? = some h → ms[i]? = some r → Kd.R (Kd.int .u16) 31 w base (fun _ => True) h r
 apart : ∀ (i j : Nat) (a b : Value), i ≠ j → hs[i]? = some a → hs[j]? = some b → Ap a b
theorem Rws.nil (w : World) (base : Nat) : Rws w base [] [] := ⟨rfl, fun i h r hi => by simp at hi, fun i j a b _ hi => by simp at hi⟩
section
variable {w w1 : World} {base base' : Nat} {hs : List Value} {ms : List (List Int)}
theorem Rws.stay (h : Rws w base hs ms) (hm : ∀ v ∈ hs, ∀ k, v.ownBlock = some k → k < w.heap.size → w1.heap[k]? = w.heap[k]?) : Rws w1 base hs ms :=
 ⟨h.len, fun i v r hi hr => R_stay rfl (h.each i v r hi hr) (hm v (List.mem_of_getElem? hi)), h.apart⟩
theorem Rws.at (h : Rws w base hs ms) {v : Value} (hv : v ∈ hs) : ∃ r, Kd.R (Kd.int .u16) 31 w base (fun _ => True) v r := by
 obtain ⟨i, hi, rfl⟩ := List.getElem_of_mem hv
 have hi' : i < ms.length := by rw [← h.len]; exact hi
 exact ⟨ms[i], h.each i _ _ (List.getElem?_eq_getElem hi) (List.getElem?_eq_getElem hi')⟩
theorem Rws.below (h : Rws w base hs ms) (hb : Below w.heap.size w w1) : Rws w1 base hs ms := h.stay (fun _ _ k _ hk => hb.block k hk)
theorem Rws.lower (h : Rws w base hs ms) (hb : base' ≤ base) : Rws w base' hs ms := ⟨h.len, fun i v r hi hr => Kd.R_lower (h.each i v r hi hr) hb, h.apart⟩
theorem Rws.lt (h : Rws w base hs ms) : ∀ v ∈ hs, ∀ k, v.ownBlock = some k → k < w.heap.size := fun v hv k hk => by
 obtain ⟨r, hr⟩ := h.at hv
 exact Kd.R_lt hr k hk
theorem Rws.ge (h : Rws w base hs ms) : ∀ v ∈ hs, ∀ k, v.ownBlock = some k → base ≤ k := fun v hv k hk => by
 obtain ⟨r, hr⟩ := h.at hv
 exact Kd.R_base hr k hk
theorem Rws.typed (h : Rws w base hs ms) : ∀ v ∈ hs, ∀ k, v.ownBlock = some k → ∃ c, w.heap[k]? = some (.cells c 31 (0, 0)) := fun v hv k hk => by
 obtain ⟨r, hr⟩ := h.at hv
 obtain ⟨i, ho⟩ := Kd.R_own hr
 exact own_typed ho k hk
theorem Rws.snoc (h : Rws w base hs ms) {v : Value} {r : List Int} (hr : Kd.R (Kd.int .u16) 31 w base (fun _ => True) v r) (ha : ∀ u ∈ hs, Ap u v) : Rws w base (hs ++ [v]) (ms ++ [r]) := by
 have hl := h.len
 have get : ∀ {γ : Type} (l : List γ) (x y : γ) (i : Nat), (l ++ [x])[i]? = some y → (i < l.length ∧ l[i]? = some y) ∨ (i = l.length ∧ y = x) := by
  intro γ l x y i hi
  rcases Nat.lt_or_ge i l.length with hlt | hge
  ·rw [List.getElem?_append_left hlt] at hi; exact .inl ⟨hlt, hi⟩
  ·rw [List.getElem?_append_right hge] at hi
   have h0 : i - l.length = 0 := by
    rcases Nat.eq_zero_or_pos (i - l.length) with h0 | h0
    ·exact h0
    ·rw [List.getElem?_eq_none (by simp; omega)] at hi; cases hi
   rw [h0] at hi
   exact .inr ⟨by omega, by simpa using hi.symm⟩
 refine ⟨by simp [hl], fun i u q hi hq => ?_, fun i j a b hne hi hj => ?_⟩
 ·rcases get _ _ _ _ hi with ⟨h1, h2⟩ | ⟨h1, rfl⟩
  ·rcases get _ _ _ _ hq with ⟨h3, h4⟩ | ⟨h3, rfl⟩
   ·exact h.each i u q h2 h4
   ·omega
  ·rcases get _ _ _ _ hq with ⟨h3, h4⟩ | ⟨h3, rfl⟩
   ·omega
   ·exact hr
 ·rcases get _ _ _ _ hi with ⟨h1, h2⟩ | ⟨h1, rfl⟩
  ·rcases get _ _ _ _ hj with ⟨h3, h4⟩ | ⟨h3, rfl⟩
   ·exact h.apart i j a b hne h2 h4
   ·exact ha a (List.mem_of_getElem? h2)
  ·rcases get _ _ _ _ hj with ⟨h3, h4⟩ | ⟨h3, rfl⟩
   ·exact (ha b (List.mem_of_getElem? h4)).symm
   ·omega
theorem Rws.put (h : Rws w base hs ms) {i : Nat} {v : Value} {r : List Int} (hi : hs[i]? = some v) (hr : Kd.R (Kd.int .u16) 31 w1 base (fun _ => True) v r) (hg : w.grownBy w1 v.ownBlock) : Rws w1 base hs (ms.set i r) := by
 refine ⟨by rw [List.length_set]; exact h.len, fun j u q hj hq => ?_, h.apart⟩
 by_cases e : i = j
 ·subst e
  rw [hi] at hj
  injection hj with hj
  subst hj
  have hlt : i < ms.length := by
   have := (List.getElem?_eq_some_iff.1 hi).1
   rw [← h.len]; exact this
  rw [List.getElem?_set_self hlt] at hq
  injection hq with hq
  subst hq
  exact hr
 ·rw [List.getElem?_set_ne e] at hq
  exact R_stay rfl (h.each j u q hj hq) (fun k hk hlt => hg.block k hlt (fun e' => h.apart i j v u e hi hj k e'.symm hk))
end
theorem C_of_raw {α : Type} {d : Kd α} {w : World} {A : Option Addr} {n : Nat} {rows : List (List Value)} {xs : List α} (h : Kd.C (Kd.raw d.sz) w A n rows) (hl : rows.length = xs.length) (hK : ∀ (j : Nat) (x : α) (c : List Value), xs[j]? = some x → rows[j]? = some c → d.K w x c) : Kd.C d w A n xs := by
 obtain ⟨h1, h2, h3⟩ := h
 refine ⟨by rw [← hl]; exact h1, h2, fun hp => ?_⟩
 obtain ⟨ad, e, hh⟩ := h3 hp
 refine ⟨ad, e, fun j p hj => ?_⟩
 have hj' : j < rows.length := by rw [hl]; exact (List.getElem?_eq_some_iff.1 hj).1
 obtain ⟨c, hcl, hc, hcc⟩ := hh j rows[j] (List.getElem?_eq_getElem hj')
 exact ⟨c, hcl, hK j p c hj (by rw [List.getElem?_eq_getElem hj']; exact congrArg some hc.1.symm), hcc⟩
def hd1 (h : Value) : List Value := [h]
structure Own (w : World) (s0 s1 : Nat) (g : G) (hs : List Value) : Prop where
 r0 : Kd.R Kd.string 9 w s0 (fun k => k < s1) (.slice g.A0 g.la.length g.c0) g.la
 r1 : Kd.R Kd.string 9 w s0 (fun k => k < s1) (.slice g.A1 g.ls.length g.c1) g.ls
 r2 : Kd.R Kd.string 9 w s0 (fun k => k < s1) (.slice g.A2 g.lo.length g.c2) g.lo
 r3 : Kd.R (Kd.int .i64) 3 w s0 (fun k => k < s1) (.slice g.A3 g.of.length g.c3) g.of
 r4 : Kd.R (Kd.int .i64) 3 w s0 (fun k => k < s1) (.slice g.A4 g.on.length g.c4) g.on
 r5 : Kd.R (Kd.raw 1) 32 w s0 (fun k => k < s1) (.slice g.A5 g.ms.length g.c5) (hs.map hd1)
 rows : Rws w s0 hs g.ms
 lt : ∀ v ∈ hs, ∀ k, v.ownBlock = some k → k < s1
 a01 : Ap (.slice g.A0 g.la.length g.c0) (.slice g.A1 g.ls.length g.c1)
 a02 : Ap (.slice g.A0 g.la.length g.c0) (.slice g.A2 g.lo.length g.c2)
 a12 : Ap (.slice g.A1 g.ls.length g.c1) (.slice g.A2 g.lo.length g.c2)
 a34 : Ap (.slice g.A3 g.of.length g.c3) (.slice g.A4 g.on.length g.c4)
section
variable {w w1 : World} {s0 s1 : Nat} {g : G} {hs : List Value}
theorem Own.stay (h : Own w s0 s1 g hs) (hm : ∀ k, s0 ≤ k → k < s1 → k < w.heap.size → w1.heap[k]? = w.heap[k]?) : Own w1 s0 s1 g hs where
 r0 := R_stay rfl h.r0 (fun k hk hl => hm k (Kd.R_base h.r0 k hk) (h.r0.1 k hk) hl)
 r1 := R_stay rfl h.r1 (fun k hk hl => hm k (Kd.R_base h.r1 k hk) (h.r1.1 k hk) hl)
 r2 := R_stay rfl h.r2 (fun k hk hl => hm k (Kd.R_base h.r2 k hk) (h.r2.1 k hk) hl)
 r3 := R_stay rfl h.r3 (fun k hk hl => hm k (Kd.R_base h.r3 k hk) (h.r3.1 k hk) hl)
 r4 := R_stay rfl h.r4 (fun k hk hl => hm k (Kd.R_base h.r4 k hk) (h.r4.1 k hk) hl)
 r5 := R_stay rfl h.r5 (fun k hk hl => hm k (Kd.R_base h.r5 k hk) (h.r5.1 k hk) hl)
 rows := h.rows.stay (fun v hv k hk hl => hm k (h.rows.ge v hv k hk) (h.lt v hv k hk) hl)
 lt := h.lt
 a01 := h.a01
 a02 := h.a02
 a12 := h.a12
 a34 := h.a34
theorem Own.below (h : Own w s0 s1 g hs) (hb : Below w.heap.size w w1) : Own w1 s0 s1 g hs := h.stay (fun k _ _ hl => hb.block k hl)
theorem Own.lower (h : Own w s0 s1 g hs) {s0' s1' : Nat} (h0 : s0' ≤ s0) (h1 : s1 ≤ s1') : Own w s0' s1' g hs where
 r0 := Kd.R_mono (Kd.R_lower h.r0 h0) (fun _ hk => Nat.lt_of_lt_of_le hk h1)
 r1 := Kd.R_mono (Kd.R_lower h.r1 h0) (fun _ hk => Nat.lt_of_lt_of_le hk h1)
 r2 := Kd.R_mono (Kd.R_lower h.r2 h0) (fun _ hk => Nat.lt_of_lt_of_le hk h1)
 r3 := Kd.R_mono (Kd.R_lower h.r3 h0) (fun _ hk => Nat.lt_of_lt_of_le hk h1)
 r4 := Kd.R_mono (Kd.R_lower h.r4 h0) (fun _ hk => Nat.lt_of_lt_of_le hk h1)
 r5 := Kd.R_mono (Kd.R_lower h.r5 h0) (fun _ hk => Nat.lt_of_lt_of_le hk h1)
 rows := h.rows.lower h0
 lt := fun v hv k hk => Nat.lt_of_lt_of_le (h.lt v hv k hk) h1
 a01 := h.a01
 a02 := h.a02
 a12 := h.a12
 a34 := h.a34
theorem Rws.K (h : Rws w s0 hs g.ms) (j : Nat) (x : List Int) (c : List Value) (hx : g.ms[j]? = some x) (hc : (hs.map hd1)[j]? = some c) : (Kd.slice 31 (Kd.int .u16)).K w x c := by
 rw [List.getElem?_map] at hc
 obtain ⟨v, hv, rfl⟩ := Option.map_eq_some_iff.1 hc
 obtain ⟨A, k, rfl, hl, hC⟩ := Kd.R_reads (h.each j v x hv hx)
 exact ⟨A, k, rfl, hl, hC⟩
theorem Own.In (h : Own w s0 s1 g hs) (hu : ∀ row ∈ g.ms, ∀ x ∈ row, (Lit.int .u16 x).wf = true) : g.In w := by
 have p0 := Kd.R_reads' h.r0
 have p1 := Kd.R_reads' h.r1
 have p2 := Kd.R_reads' h.r2
 have p3 := Kd.R_reads' h.r3
 have p4 := Kd.R_reads' h.r4
 have p5 := Kd.R_reads' h.r5
 have hl : (hs.map hd1).length = g.ms.length := by rw [List.length_map]; exact h.rows.len
 have h5 := C_of_raw (d := Kd.slice 31 (Kd.int .u16)) (xs := g.ms) p5.2.2 hl (h.rows.K)
 rw [hl] at h5
 exact ⟨p0.2.2, p1.2.2, p2.2.2, p3.2.2, p4.2.2, h5, p0.2.1, p1.2.1, p2.2.1, p3.2.1, p4.2.1, p5.2.1, hu⟩
end
end Go.Proofs.Ythaiodklfoegiaa.OBase
/- gatehouseref08.Table, walked: the matrix of what is allowed. -/
namespace Go.Proofs.Ythaiodklfoegiaa.OTab
open Go.RowKit YthaiodklfoegiaaW.PrintWords YthaiodklfoegiaaW.PrintLast YthaiodklfoegiaaW.PrintMore BRow GDiffer CPure CBits CSame DTab MLines MSide MPol OBase Go.Maps
open PG YthaiodklfoegiaaF
theorem infT : (Try.prog.info? 22).map (fun i => (i.zero, i.size, i.bytes)) = some (some (.slice none 0 0), 1, 24) := by kernel_rfl
theorem infR : (Try.prog.info? 32).map (fun i => (i.zero, i.size, i.bytes)) = some (some (.slice none 0 0), 1, 24) := by kernel_rfl
theorem i39k : (Try.prog.info? 39).map (·.size) = some 11 := by kernel_rfl
theorem below_le {B C : Nat} {w W : World} (h : Below B w W) (hl : C ≤ B) : Below C w W := ⟨h.os, h.tape, h.output, h.size, fun k hk => h.block k (by omega)⟩
theorem ups_go {A B : Option Addr} {c k : Nat} {near far : List S108} {x : ByteArray} {w : World} (h1 : k108.C w A near.length near) (hc : near.length ≤ c) (h2 : k108.C w B far.length far) (hk : far.length ≤ k) (hN : near.length + far.length ≤ 8796093022000) :
  Calls Try.prog 66 #[.slice A near.length c, .slice B far.length k, .string x] w fun e w' => ∃ A' m c' L, e = .returned (.slice A' m c') ∧ Kd.R Kd.string 9 w' w.heap.size (fun _ => True) (.slice A' m c') L ∧ (∀ s, s ∈ L ↔ MClose.Reach (near ++ far) x s) ∧ L.length ≤ 9223372036854775807 ∧ Below w.heap.size w w' := by
 obtain ⟨L, hE, hs, hl⟩ := ups_f near far x (by omega)
 obtain ⟨K, h⟩ := hE.rounds
 refine (gatehouseref08_Ups.calls K A c near B k far x L w h1 hc h2 hk h).mono ?_
 rintro e w' ⟨v, rfl, hR, hb⟩
 obtain ⟨A', c', rfl⟩ := Kd.R_slice hR
 exact ⟨A', _, c', L, rfl, hR, hs, by omega, hb⟩
section
variable {p : Pol} {w : World} (hp : p.In w)
include hp
theorem trust_go (s : ByteArray) (hl : p.d.subs.length ≤ 64) : Calls Try.prog 67 #[.agg p.cells, .string s] w fun e w' => e = .returned (.tuple #[.float .f64 ((p.d.trust s).getD 0), .bool (p.d.trust s).isSome]) ∧ Below w.heap.size w w' := by
 obtain ⟨k, h⟩ := (trust_f p.d s (by omega)).rounds
 exact gatehouseref08_Trust.calls k p.A0 p.c0 p.d.acts p.A1 p.c1 p.d.subs p.A2 p.c2 p.d.roles p.A3 p.c3 p.d.objs p.A4 p.c4 p.d.grps p.A5 p.c5 p.d.mem p.A6 p.c6 p.d.inh p.A7 p.c7 p.d.par p.A8 p.c8 p.d.wit p.A9 p.c9 p.d.rules p.A10 p.c10 p.d.exc s _ _ w hp.h0 hp.l0 hp.h1 hp.l1 hp.h2 hp.l2 hp.h3 hp.l3 hp.h4 hp.l4 hp.h5 hp.l5 hp.h6 hp.l6 hp.h7 hp.l7 hp.h8 hp.l8 hp.h9 hp.l9 hp.h10 hp.l10 h
theorem one_go {A B : Option Addr} {c k n m tr : Nat} {whos whats : List ByteArray} (h1 : Kd.string.C w A n whos) (hn : whos.length = n) (hc : n ≤ c) (h2 : Kd.string.C w B m whats) (hm : whats.length = m) (hk : m ≤ k) (l1 : whos.length ≤ 9223372036854775807) (l2 : whats.length ≤ 9223372036854775807) (hr : p.d.rules.length ≤ 1759218604390) :
  Calls Try.prog 68 #[.agg p.cells, .slice A n c, .float .f64 tr, .slice B m k] w fun e w' => ∃ A' n' c', e = .returned (.slice A' n' c') ∧ n' = (p.d.rules.filter (fun r => aboutB r whos whats tr)).length ∧ n' ≤ c' ∧ k78.C w' A' n' (p.d.rules.filter (fun r => aboutB r whos whats tr)) ∧ Below w.heap.size w w' := by
 subst hn hm
 obtain ⟨K, h⟩ := (one_f p.d hr whos whats tr l1 l2).rounds
 refine (gatehouseref08_one.calls K p.A0 p.c0 p.d.acts p.A1 p.c1 p.d.subs p.A2 p.c2 p.d.roles p.A3 p.c3 p.d.objs p.A4 p.c4 p.d.grps p.A5 p.c5 p.d.mem p.A6 p.c6 p.d.inh p.A7 p.c7 p.d.par p.A8 p.c8 p.d.wit (fun k => k < w.heap.size) p.A9 p.c9 p.d.rules p.A10 p.c10 p.d.exc A c whos tr B k whats _ w hp.h0 hp.l0 hp.h1 hp.l1 hp.h2 hp.l2 hp.h3 hp.l3 hp.h4 hp.l4 hp.h5 hp.l5 hp.h6 hp.l6 hp.h7 hp.l7 hp.h8 hp.l8 (Kd.V_mk hp.l9 (Kd.C_F k78_heap hp.h9)) hp.h10 hp.l10 h1 hc h2 hk h).mono ?_
 rintro e w' ⟨v, rfl, hN, hb⟩
 obtain ⟨A', c', rfl⟩ := Kd.N_slice hN
 obtain ⟨_, h2, h3⟩ := Kd.N_reads' hN
 exact ⟨A', _, c', rfl, rfl, h2, h3, hb⟩
theorem may_go {A : Option Addr} {n c : Nat} {L : List S78} (s o a : ByteArray) (hL : k78.C w A n L) (hn : L.length = n) (hc : n ≤ c) (he : p.d.exc.length ≤ 9223372036854775807) (hf : ∀ r ∈ L, r.f3.length ≤ 9223372036854775807) :
  Calls Try.prog 69 #[.agg p.cells, .slice A n c, .agg #[.string s, .string o, .string a]] w fun e w' => e = .returned (.bool (allowsF L p.d.exc ⟨s, o, a⟩)) ∧ Below w.heap.size w w' := by
 subst hn
 obtain ⟨K, h⟩ := (may_f p.d ⟨s, o, a⟩ he L (Kd.C_max hL) hf).rounds
 exact gatehouseref08_may.calls K p.A0 p.c0 p.d.acts p.A1 p.c1 p.d.subs p.A2 p.c2 p.d.roles p.A3 p.c3 p.d.objs p.A4 p.c4 p.d.grps p.A5 p.c5 p.d.mem p.A6 p.c6 p.d.inh p.A7 p.c7 p.d.par p.A8 p.c8 p.d.wit p.A9 p.c9 p.d.rules p.A10 p.c10 p.d.exc A c L s o a _ w hp.h0 hp.l0 hp.h1 hp.l1 hp.h2 hp.l2 hp.h3 hp.l3 hp.h4 hp.l4 hp.h5 hp.l5 hp.h6 hp.l6 hp.h7 hp.l7 hp.h8 hp.l8 hp.h9 hp.l9 hp.h10 hp.l10 hL hc h
end
open Classical in
theorem allows_nil (ex : List S28) (t : S28) : allowsF [] ex t = false := by
 refine Bool.eq_false_iff.2 (fun h => ?_)
 unfold allowsF at h
 have h := of_decide_eq_true h
 obtain ⟨⟨⟨q, hq, _⟩, _⟩, _⟩ := h
 cases hq
def Wt (d : PolD) (q : Nat) (W : World) (b : Nat) (v : Value) : Prop := ∃ A m c L, v = .slice A m c ∧ Kd.R Kd.string 9 W b (fun _ => True) (.slice A m c) L ∧ (∀ s, s ∈ L ↔ MClose.Reach (d.par ++ d.wit) (d.objs.getD q ⟨#[]⟩) s) ∧ L.length ≤ 9223372036854775807
theorem Wt.below {d : PolD} {q b : Nat} {W W1 : World} {v : Value} (h : Wt d q W b v) (hb : Below W.heap.size W W1) : Wt d q W1 b v := by
 obtain ⟨A, m, c, L, e, hR, hs, hl⟩ := h
 exact ⟨A, m, c, L, e, Kd.R_below hR hb, hs, hl⟩
theorem Wt.stay {d : PolD} {q b b' : Nat} {ok : Nat → Prop} {W W1 : World} {v u : Value} {X : List (List Value)} (h : Wt d q W b v) (hraw : Kd.R (Kd.raw 1) 22 W b' ok u X) (hg : W.grownBy W1 u.ownBlock) : Wt d q W1 b v := by
 obtain ⟨A, m, c, L, e, hR, hs, hl⟩ := h
 exact ⟨A, m, c, L, e, R_stay rfl hR (fun k hk hlt => hg.block k hlt (fun e => ap_types hR hraw (by decide) k hk e.symm)), hs, hl⟩
theorem col_stay {w w1 : World} {b b' : Nat} {ok ok' : Nat → Prop} {v u : Value} {xs : List Int} {L : List (List Value)} (h : Kd.R (Kd.int .u16) 31 w b ok v xs) (hraw : Kd.R (Kd.raw 1) 32 w b' ok' u L) (hg : w.grownBy w1 u.ownBlock) : Kd.R (Kd.int .u16) 31 w1 b ok v xs :=
 R_stay rfl h (fun k hk hlt => hg.block k hlt (fun e => ap_types h hraw (by decide) k hk e.symm))
theorem all_snoc {P : Nat → Value → Prop} {hs : List Value} {x : Value} (h : ∀ j v, hs[j]? = some v → P j v) (hx : P hs.length x) : ∀ j v, (hs ++ [x])[j]? = some v → P j v := by
 intro j v hj
 by_cases hl : j < hs.length
 ·rw [List.getElem?_append_left hl] at hj
  exact h j v hj
 ·rw [List.getElem?_append_right (by omega)] at hj
  have hk : j - hs.length = 0 := by
   cases hk : j - hs.length with
   | zero => rfl
   | succ n => rw [hk] at hj; simp at hj
  rw [hk] at hj
  have hv : x = v := by simpa using hj
  have : j = hs.length := by omega
  subst this; subst hv; exact hx
theorem table_go (p : Pol) (w : World) (hp : p.In w) (hF : Fit p.d) : Calls Try.prog 41 #[.agg p.cells] w fun e w' => ∃ A c, e = .returned (.slice A p.d.subs.length c) ∧ p.d.subs.length ≤ c ∧ (Kd.slice 31 (Kd.int .u16)).C w' A p.d.subs.length (tabD p.d) ∧ Below w.heap.size w w' := by
 obtain ⟨d, A0, c0, A1, c1, A2, c2, A3, c3, A4, c4, A5, c5, A6, c6, A7, c7, A8, c8, A9, c9, A10, c10⟩ := p
 have HP := jA (fun (W : World) (hb : Below w.heap.size w W) => hp.below hb)
 have HF := jA hF
 have hsu := hF.subs
 have hob := hF.objs
 have hac := hF.acts
 simp only [] at hsu hob hac
 have hst : Stays (w.alloc (.cells #[.slice A0 d.acts.length c0, .slice A1 d.subs.length c1, .slice A2 d.roles.length c2, .slice A3 d.objs.length c3, .slice A4 d.grps.length c4, .slice A5 d.mem.length c5, .slice A6 d.inh.length c6, .slice A7 d.par.length c7, .slice A8 d.wit.length c8, .slice A9 d.rules.length c9, .slice A10 d.exc.length c10] 39)) w.heap.size #[.slice A0 d.acts.length c0, .slice A1 d.subs.length c1, .slice A2 d.roles.length c2, .slice A3 d.objs.length c3, .slice A4 d.grps.length c4, .slice A5 d.mem.length c5, .slice A6 d.inh.length c6, .slice A7 d.par.length c7, .slice A8 d.wit.length c8, .slice A9 d.rules.length c9, .slice A10 d.exc.length c10] 39 := heap_alloc_new w _
 have hb0 := below_alloc (Below.refl w.heap.size w) (.cells #[.slice A0 d.acts.length c0, .slice A1 d.subs.length c1, .slice A2 d.roles.length c2, .slice A3 d.objs.length c3, .slice A4 d.grps.length c4, .slice A5 d.mem.length c5, .slice A6 d.inh.length c6, .slice A7 d.par.length c7, .slice A8 d.wit.length c8, .slice A9 d.rules.length c9, .slice A10 d.exc.length c10] 39)
 clear hp hF
 unfold Pol.cells
 go_enter Try.func41, Try.ntmps41
 go_upto_region 1 with fail
 obtain ⟨W0, hW0⟩ : ∃ W0, W0 = w.alloc (.cells #[.slice A0 d.acts.length c0, .slice A1 d.subs.length c1, .slice A2 d.roles.length c2, .slice A3 d.objs.length c3, .slice A4 d.grps.length c4, .slice A5 d.mem.length c5, .slice A6 d.inh.length c6, .slice A7 d.par.length c7, .slice A8 d.wit.length c8, .slice A9 d.rules.length c9, .slice A10 d.exc.length c10] 39) := ⟨_, rfl⟩
 rw [← hW0] at hst hb0 ⊢
 have HB0 := jA hb0
 have HBX := jA (fun (W : World) (hb : Below W0.heap.size W0 W) => hst.below hb)
 have HPX := jA (fun (W : World) (hb : Below W0.heap.size W0 W) => HP.out W (below_then hb0 hb0.size hb))
 have HW0 := jA (Below.refl W0.heap.size W0)
 clear hst hb0 hW0 HP
 go_wp2
 go_loopw [3, 4] (fun u3 u4 wr => ∃ (j : Nat) (hs : List Value), j ≤ d.objs.length ∧ u4 = .int .i64 j ∧ Aside0 (hs.length = j) ∧ Aside0 (∀ q v, hs[q]? = some v → Wt d q wr W0.heap.size v) ∧ Aside0 (Kd.R (Kd.raw 1) 22 wr W0.heap.size (fun _ => True) u3 (hs.map hd1)) ∧ Aside0 (Below W0.heap.size W0 wr)) (fun _ u4 _ => d.objs.length - (intOf u4).toNat)
 case atStart => exact ⟨0, [], by omega, rfl, ⟨rfl⟩, ⟨by simp⟩, ⟨Kd.R_nil _ _ _ _ _⟩, HW0⟩
 case round =>
  clear HW0
  obtain ⟨j, hs, hj, rfl, HN, HK, HR, HM⟩ := hrel
  have hbx := HBX.out _ HM.out
  have x3 := hbx.cell 3
  have x7 := hbx.cell 7
  have x8 := hbx.cell 8
  simp only [Jt, Ju, Jv] at x3 x7 x8
  by_cases hlt : j < d.objs.length
  ·have hlt' : (j : Int) < d.objs.length := by omega
   have hpin := HPX.out _ HM.out
   obtain ⟨ad3, q3, hx⟩ := Kd.at_string hpin.h3 (j : Int) (by omega) (by simpa using hlt')
   have q3 : A3 = some ad3 := q3
   subst q3
   simp only [Int.toNat_natCast] at hx
   obtain ⟨o, ho⟩ : ∃ o, o = rdOf ByteArray.empty d.objs (j : Int) := ⟨_, rfl⟩
   rw [← ho] at hx
   have HO := jA (show d.objs.getD j ⟨#[]⟩ = o by rw [ho]; simp [rdOf, hlt])
   have UG := jA (fun (W : World) (hb : Below W0.heap.size W0 W) => ups_go (x := o) (HPX.out W hb).h7 (HPX.out W hb).l7 (HPX.out W hb).h8 (HPX.out W hb).l8 (by have h1 := HF.out.ok.lpar; have h2 := HF.out.ok.lwit; simp only [] at h1 h2 ⊢; omega))
   simp only [] at UG
   have HLm := jA (show ((hs.map hd1).length + 1) * 24 ≤ 140737488355328 by rw [List.length_map, HN.out]; omega)
   have HMd := jA (below_then HM.out HM.out.size (below_drew (Below.refl wr.heap.size wr)))
   clear hbx ho hpin
   go_upto_region 5 with fail
   refine start_ (n := 14) (S := fun w' => w'.cell? ⟨w.heap.size, 7, none⟩ = some (.slice A7 d.par.length c7) ∧ w'.cell? ⟨w.heap.size, 8, none⟩ = some (.slice A8 d.wit.length c8) ∧ w'.cell? ⟨w.heap.size, 3, none⟩ = some (.slice (some ad3) d.objs.length c3) ∧ w'.cell? (ad3.add j) = some (.string o)) (ds := [12]) (Jb 14 0) (by kernel_rfl) rfl (by kernel_rfl) ⟨x7, x8, x3, hx⟩ (fun hHeld => ?_)
   refine Jp 0 24 (Jb 14 1) rfl rfl ?_
   refine Jp 1 25 (Jb 14 3) rfl rfl ?_
   refine Jk 2 26 (Jb 14 7) rfl rfl hHeld (.inl ⟨by rfl, by rintro w' ⟨s0, s1, s2, s3⟩; go_simp; with_reducible rfl⟩) ?_
   refine Jp 3 27 (Jb 14 15) rfl rfl ?_
   refine Jk 4 28 (Jb 14 31) rfl rfl hHeld (.inl ⟨by rfl, by rintro w' ⟨s0, s1, s2, s3⟩; go_simp; with_reducible rfl⟩) ?_
   refine Jp 5 29 (Jb 14 63) rfl rfl ?_
   refine Jk 6 30 (Jb 14 127) rfl rfl hHeld (.inl ⟨by rfl, by rintro w' ⟨s0, s1, s2, s3⟩; go_simp; with_reducible rfl⟩) ?_
   refine Jp 7 31 (Jb 14 255) rfl rfl ?_
   refine Jp 8 32 (Jb 14 511) rfl rfl ?_
   refine Jk 9 33 (Jb 14 1023) rfl rfl hHeld (.inl ⟨by rfl, by rintro w' ⟨s0, s1, s2, s3⟩; go_simp; with_reducible rfl⟩) ?_
   refine one_ (i := 10) (N := some 34) (Jb 14 2047) rfl rfl (by kernel_rfl) (by decide) (fun K hK => ?_)
   refine goes_ Try.func66 (by kernel_rfl) rfl #[.slice A7 d.par.length c7, .slice A8 d.wit.length c8, .string o] (by rfl) rfl rfl (by (try simp only [List.map_toArray, List.map_cons, List.map_nil]); first | done | rfl) ?_
   refine (UG.out _ HMd.out).mono ?_
   rintro e w1 ⟨A, m, c, L, rfl, hRL, hLs, hLl, hb⟩
   refine ⟨_, rfl, ?_⟩
   have hS := And.intro (pw_cell_below hb hHeld.1) (And.intro (pw_cell_below hb hHeld.2.1) (And.intro (pw_cell_below hb hHeld.2.2.1) (pw_cell_below hb hHeld.2.2.2)))
   have HM1 := jA (below_then HMd.out HMd.out.size hb)
   have hbw := below_then (below_drew (Below.refl wr.heap.size wr)) (Nat.le_refl _) hb
   have HW1' := jA (show Wt d j w1 W0.heap.size (.slice A m c) from ⟨A, m, c, L, rfl, Kd.R_lower hRL HMd.out.size, by rw [HO.out]; exact hLs, hLl⟩)
   have HK1 := jA (fun q v hv => (HK.out q v hv).below hbw)
   have HR1 := jA (Kd.R_below HR.out hbw)
   have HS1 := jA HM1.out.size
   clear hHeld hRL hLs hLl hb hbw
   refine hK.out _ _ hS (fun hHeld => ?_)
   clear hK K hS
   refine norm_ (a' := ?_) ?_ ?_; rotate_left; (show Act.put _ (some 34) _ = _; simp only [Act.put, Jq, Jr, Js]; rfl)
   refine one_ (i := 11) (N := some 35) (Jb 14 4095) rfl rfl (by kernel_rfl) (by decide) (fun K hK => ?_)
   refine GDiffer.step_run (w' := w1.alloc (.cells #[.slice A m c] 22)) (v := .slice (some ⟨w1.heap.size, 0, none⟩) 1 1) rfl rfl (by go_simp) ?_
   have hb := below_alloc (Below.refl _ w1) (.cells #[.slice A m c] 22)
   have hS := And.intro (pw_cell_below hb hHeld.1) (And.intro (pw_cell_below hb hHeld.2.1) (And.intro (pw_cell_below hb hHeld.2.2.1) (pw_cell_below hb hHeld.2.2.2)))
   clear hb hHeld
   refine hK.out _ _ hS (fun hHeld => ?_)
   clear hK K hS
   refine norm_ (a' := ?_) ?_ ?_; rotate_left; (show Act.put _ (some 35) _ = _; simp only [Act.put, Jq, Jr, Js]; rfl)
   clear hHeld
   refine last_ (i := 12) (N := some 36) (Jb 14 8191) rfl rfl (by kernel_rfl) (by decide) (fun K hK => ?_)
   refine Kd.R_append_step (Kd.raw 1) (w0 := W0) W0.heap.size rfl (.tmp 24) (.tmp 35) 41 22 (.slice none 0 0) 24 rfl Try.underlying41 OTab.infT rfl (by decide) (by decide) u3 (hs.map hd1) (hd1 (.slice A m c)) [.slice A m c] (fun _ => True) (fun _ => False) rfl rfl ⟨rfl, rfl, fun u hu => by rw [List.mem_singleton.1 hu]; rfl⟩ (fun _ hk => hk.elim) (fun _ _ => trivial) HR1.out HM1.out HS1.out HLm.out ?_
   intro v3 w3 hR3 hB3 hg3 Zh
   have HR3 := jA hR3
   have HM3 := jA hB3
   have HK3 := jA (all_snoc (P := fun q v => Wt d q w3 W0.heap.size v) (fun q v hv => (HK1.out q v hv).stay HR1.out hg3) (by rw [HN.out]; exact HW1'.out.stay HR1.out hg3))
   clear hR3 hB3 hg3 Zh
   refine hK.out _ _ ?_
   clear hK K
   refine norm_ (a' := ?_) ?_ ?_; rotate_left; (show Act.put _ (some 36) _ = _; simp only [Act.put, Jq, Jr, Js]; rfl)
   refine Jp 13 3 (Jb 14 16383) rfl rfl ?_
   refine done_ (by kernel_rfl) ?_
   go_wp2
   exact ⟨⟨j + 1, hs ++ [.slice A m c], by omega, by go_num, ⟨by simp [HN.out]⟩, HK3, ⟨by rw [List.map_append]; exact HR3.out⟩, HM3⟩, by simp [intOf]; omega⟩
  ·have hj2 : j = d.objs.length := by omega
   subst hj2
   have hlt' : ¬ ((d.objs.length : Int) < d.objs.length) := by omega
   obtain ⟨Ah, ch, e3⟩ := Kd.R_slice HR.out
   rw [List.length_map, HN.out] at e3
   subst e3
   have HHC := jA (Kd.R_reads' HR.out).2.2
   have HB1 := jA (below_then HB0.out HB0.out.size HM.out)
   rename World => W1
   have Za := jA (fun (W : World) (hb : Below W1.heap.size W1 W) => HBX.out W (below_then HM.out HM.out.size hb))
   have Zb := jA (fun (W : World) (hb : Below W1.heap.size W1 W) => HPX.out W (below_then HM.out HM.out.size hb))
   have HW1 := jA (Below.refl W1.heap.size W1)
   clear HR hlt hj hbx x7 x8
   go_wp2
   clear x3
   go_loopw [5, 6] (fun u5 u6 wr => ∃ (i : Nat) (hs2 : List Value), i ≤ d.subs.length ∧ u6 = .int .i64 i ∧ Aside0 (hs2.length = i) ∧ Aside0 (∀ q v, hs2[q]? = some v → Kd.R (Kd.int .u16) 31 wr W1.heap.size (fun _ => True) v (rowD d q)) ∧ Aside0 (Kd.R (Kd.raw 1) 32 wr W1.heap.size (fun _ => True) u5 (hs2.map hd1)) ∧ Aside0 (Below W1.heap.size W1 wr)) (fun _ u6 _ => d.subs.length - (intOf u6).toNat)
   case atStart => exact ⟨0, [], by omega, rfl, ⟨rfl⟩, ⟨by simp⟩, ⟨Kd.R_nil _ _ _ _ _⟩, HW1⟩
   case round =>
    clear HW1
    obtain ⟨i, hs2, hi, rfl, HN2, HK2, HR2, HM2⟩ := hrel
    have hbx := Za.out _ HM2.out
    have x1 := hbx.cell 1
    simp only [Jt, Ju, Jv] at x1
    by_cases hlt : i < d.subs.length
    ·have hlt' : (i : Int) < d.subs.length := by omega
     have hpin := Zb.out _ HM2.out
     obtain ⟨ad1, q1, hx, hxt⟩ := at_T54 hpin.h1 (i : Int) (by omega) (by simpa using hlt')
     have q1 : A1 = some ad1 := q1
     subst q1
     simp only [Int.toNat_natCast] at hx
     have hrd : rd_T54 d.subs (i : Int) = d.subs[i] := by simp [rd_T54, hlt]
     rw [hrd] at hx
     obtain ⟨s, hsd⟩ : ∃ s, s = d.subs[i].f0 := ⟨_, rfl⟩
     rw [← hsd] at hx
     have HSD := jA hsd
     clear hbx hxt hrd hsd
     go_upto_region 11 with fail
     clear x1 hx
     have TG0 := trust_go hpin s hsu
     simp only [Pol.cells] at TG0
     have TG := jA TG0
     have UG := jA (fun (W : World) (hb : Below W1.heap.size W1 W) => ups_go (x := s) (Zb.out W hb).h5 (Zb.out W hb).l5 (Zb.out W hb).h6 (Zb.out W hb).l6 (by have h1 := HF.out.ok.lmem; have h2 := HF.out.ok.linh; simp only [] at h1 h2 ⊢; omega))
     simp only [] at UG
     clear hpin TG0
     obtain ⟨tr, htr⟩ : ∃ tr, tr = (d.trust s).getD 0 := ⟨_, rfl⟩
     have HTRD := jA htr
     rw [← htr] at TG
     clear htr
     go_upto_region 12 with (first
      | ((with_reducible refine gate_dst (N := 51) rfl ?_); refine wpList_load_blk rfl 39 (.tmp 1) rfl w.heap.size ?hx #[.slice A0 d.acts.length c0, .slice (some ad1) d.subs.length c1, .slice A2 d.roles.length c2, .slice A3 d.objs.length c3, .slice A4 d.grps.length c4, .slice A5 d.mem.length c5, .slice A6 d.inh.length c6, .slice A7 d.par.length c7, .slice A8 d.wit.length c8, .slice A9 d.rules.length c9, .slice A10 d.exc.length c10] 39 (Za.out _ HM2.out) _ Try.underlying39 rfl i39k ?_; (case hx => rfl))
      | (go_at_call 67; (with_reducible refine TG.out.mono ?_); rintro e w3 ⟨rfl, hb⟩; have HM3 := jA (below_then HM2.out HM2.out.size hb); have HB3 := jA hb; have x5 := (Za.out _ HM3.out).cell 5; have x6 := (Za.out _ HM3.out).cell 6; (simp only [Jt, Ju, Jv] at x5 x6); clear hb))
     go_upto_region 13 with (go_at_call 66; (with_reducible refine (UG.out _ HM3.out).mono ?_); rintro e w4 ⟨Aw, mw, cw, Lw, rfl, hRw, hLw, hmw, hb⟩; have HRW := jA hRw; have HLW := jA hLw; have HMW := jA hmw; have HM4 := jA (below_then HM3.out HM3.out.size hb); have HB4 := jA (below_then HB3.out HB3.out.size hb); clear hRw hLw hmw hb)
     clear x5 x6 TG UG HM3 HB3
     have x3 := (Za.out _ HM4.out).cell 3
     simp only [Jt, Ju, Jv] at x3
     rename World => Wb
     have HWb := jA (Below.refl Wb.heap.size Wb)
     have Zd := jA (fun (W : World) (hb : Below Wb.heap.size Wb W) => Za.out W (below_then HM4.out HM4.out.size hb))
     have Zf := jA (fun (W : World) (hb : Below Wb.heap.size Wb W) => Zb.out W (below_then HM4.out HM4.out.size hb))
     go_wp2
     clear x3
     go_loopw [11, 12] (fun u11 u12 wr => ∃ j : Nat, j ≤ d.objs.length ∧ u12 = .int .i64 j ∧ Aside0 (Kd.R (Kd.int .u16) 31 wr Wb.heap.size (fun _ => True) u11 ((List.range j).map (matD d i))) ∧ Aside0 (Below Wb.heap.size Wb wr)) (fun _ u12 _ => d.objs.length - (intOf u12).toNat)
     case atStart => exact ⟨0, by omega, rfl, ⟨Kd.R_nil _ _ _ _ _⟩, HWb⟩
     case round =>
      clear HWb
      obtain ⟨j, hj, rfl, HR5, HM5⟩ := hrel
      have x3 := (Zd.out _ HM5.out).cell 3
      simp only [Jt, Ju, Jv] at x3
      by_cases hltj : j < d.objs.length
      ·have hltj' : (j : Int) < d.objs.length := by omega
       have hjl : j < hs.length := by rw [HN.out]; exact hltj
       obtain ⟨A, m, c, Lt, ev, hRt, hLt, hmt⟩ := HK.out j hs[j] (List.getElem?_eq_getElem hjl)
       obtain ⟨adh, cc, qh, _, hKh, hch⟩ := Kd.C_get HHC.out ([] : List Value) (j : Int) (by omega) (by rw [List.length_map]; omega)
       have qh : Ah = some adh := qh
       subst qh
       have hcc : cc = [.slice A m c] := by
        have h := hKh.1
        rw [Int.toNat_natCast, List.getD_eq_getElem?_getD, List.getElem?_map, List.getElem?_eq_getElem hjl, ev] at h
        exact h
       subst hcc
       have hh := hch 0 _ rfl
       have hd : (Kd.raw 1).sz = 1 := rfl
       rw [hd, Int.toNat_natCast, Nat.mul_one, Nat.add_zero] at hh
       have Zg := below_then HM4.out HM4.out.size HM5.out
       have hh5 := pw_cell_below Zg hh
       have hM5d := below_then HM5.out HM5.out.size (below_drew (Below.refl wr.heap.size wr))
       have hpin := Zf.out _ hM5d
       have OG0 := one_go hpin (tr := tr) (c := cw) (k := c) (whos := Lw) (whats := Lt) (Kd.C_below (Kd.R_reads' HRW.out).2.2 hM5d) rfl (by have h := Kd.R_reads' HRW.out; have h1 := h.1; have h2 := h.2.1; omega) (Kd.C_below (Kd.R_reads' hRt).2.2 (below_then HM4.out HM4.out.size hM5d)) rfl (by have h := Kd.R_reads' hRt; have h1 := h.1; have h2 := h.2.1; omega) HMW.out hmt HF.out.ok.lrules
       rw [← (Kd.R_reads' HRW.out).1, ← (Kd.R_reads' hRt).1] at OG0
       simp only [Pol.cells] at OG0
       have OGd := jA OG0
       have HM5d := jA (below_then HM5.out HM5.out.size (below_drew (Below.refl wr.heap.size wr)))
       obtain ⟨f, hfl, hfm⟩ := tab_bits (d := d) hlt hltj Lw Lt (fun x => by rw [← HSD.out]; exact HLW.out x) (fun x => by
        have h := hLt x
        rw [List.getD_eq_getElem?_getD, List.getElem?_eq_getElem hltj] at h
        exact h)
       rw [← HSD.out, ← HTRD.out] at hfl
       obtain ⟨RU, hRU⟩ : ∃ RU, RU = d.rules.filter (fun r => aboutB r Lw Lt tr) := ⟨_, rfl⟩
       rw [← hRU] at OGd hfl
       have HRU := jA hRU
       have HFL := jA hfl
       have HFM := jA hfm
       have HXH := jA (show wr.drew.cell? _ = _ from hh5)
       have HSB := jA (Zd.out _ HM5.out)
       clear hKh hch hh hd Zg hM5d hh5 hpin OG0 hfl hfm hRt hLt hmt ev hjl hRU
       go_upto_region 17 with fail
       refine start_ (n := 9) (S := fun w' => Stays w' w.heap.size #[.slice A0 d.acts.length c0, .slice (some ad1) d.subs.length c1, .slice A2 d.roles.length c2, .slice A3 d.objs.length c3, .slice A4 d.grps.length c4, .slice A5 d.mem.length c5, .slice A6 d.inh.length c6, .slice A7 d.par.length c7, .slice A8 d.wit.length c8, .slice A9 d.rules.length c9, .slice A10 d.exc.length c10] 39 ∧ w'.cell? (adh.add j) = some (.slice A m c)) (ds := []) (Jb 9 0) (by kernel_rfl) rfl (by kernel_rfl) ⟨HSB.out, HXH.out⟩ (fun hHeld => ?_)
       refine take_ (i := 0) (N := some 69) (v := .agg (#[.slice A0 d.acts.length c0, .slice (some ad1) d.subs.length c1, .slice A2 d.roles.length c2, .slice A3 d.objs.length c3, .slice A4 d.grps.length c4, .slice A5 d.mem.length c5, .slice A6 d.inh.length c6, .slice A7 d.par.length c7, .slice A8 d.wit.length c8, .slice A9 d.rules.length c9, .slice A10 d.exc.length c10])) (a' := ?_) (Jb 9 1) rfl rfl (by kernel_rfl) (fun _ _ _ h => h) (yieldsIf_load_mid (by rfl) 39 (.tmp 1) rfl w.heap.size 0 rfl ((#[.slice A0 d.acts.length c0, .slice (some ad1) d.subs.length c1, .slice A2 d.roles.length c2, .slice A3 d.objs.length c3, .slice A4 d.grps.length c4, .slice A5 d.mem.length c5, .slice A6 d.inh.length c6, .slice A7 d.par.length c7, .slice A8 d.wit.length c8, .slice A9 d.rules.length c9, .slice A10 d.exc.length c10])).toList _ (fun w' hs => Stays.range (hs.1) _ rfl) Try.underlying39 rfl (by first | exact i39k | (simp; exact i39k))) hHeld ?_ ?_
       rotate_left
       ·simp only [Act.put, Jq, Jr, Js]
        rfl
       refine Jp 1 70 (Jb 9 3) rfl rfl ?_
       refine Jp 2 71 (Jb 9 7) rfl rfl ?_
       refine Jp 3 72 (Jb 9 15) rfl rfl ?_
       refine Jp 4 73 (Jb 9 31) rfl rfl ?_
       refine Jp 5 74 (Jb 9 63) rfl rfl ?_
       refine Jk 6 75 (Jb 9 127) rfl rfl hHeld (.inl ⟨by rfl, by rintro w' ⟨s0, s1⟩; go_simp; with_reducible rfl⟩) ?_
       refine one_ (i := 7) (N := some 76) (Jb 9 255) rfl rfl (by kernel_rfl) (by decide) (fun K hK => ?_)
       refine goes_ Try.func68 (by kernel_rfl) rfl #[.agg #[.slice A0 d.acts.length c0, .slice (some ad1) d.subs.length c1, .slice A2 d.roles.length c2, .slice A3 d.objs.length c3, .slice A4 d.grps.length c4, .slice A5 d.mem.length c5, .slice A6 d.inh.length c6, .slice A7 d.par.length c7, .slice A8 d.wit.length c8, .slice A9 d.rules.length c9, .slice A10 d.exc.length c10], .slice Aw mw cw, .float .f64 tr, .slice A m c] (by rfl) rfl rfl (by (try simp only [List.map_toArray, List.map_cons, List.map_nil]); first | done | rfl) ?_
       refine (OGd.out).mono ?_
       rintro e w6 ⟨Ar, nr, cr, rfl, hnr, hnc, hcr, hb⟩
       refine ⟨_, rfl, ?_⟩
       have hS := And.intro (hHeld.1.below hb) (pw_cell_below hb hHeld.2)
       have HM6 := jA (below_then HM5d.out HM5d.out.size hb)
       have HB6 := jA (below_then (below_drew (Below.refl wr.heap.size wr)) (Nat.le_refl _) hb)
       have HNR := jA hnr
       have HNC := jA hnc
       have HCR := jA hcr
       clear hHeld hnr hnc hcr hb
       refine hK.out _ _ hS (fun hHeld => ?_)
       clear hK K hS
       refine norm_ (a' := ?_) ?_ ?_; rotate_left; (show Act.put _ (some 76) _ = _; simp only [Act.put, Jq, Jr, Js]; rfl)
       refine Jp 8 13 (Jb 9 511) rfl rfl ?_
       clear hHeld
       refine done_ (by kernel_rfl) ?_
       have HX3 := jA (fun (W : World) (hb : Below w6.heap.size w6 W) => Zd.out W (below_then HM6.out HM6.out.size hb))
       have HP3 := jA (fun (W : World) (hb : Below w6.heap.size w6 W) => Zf.out W (below_then HM6.out HM6.out.size hb))
       have HW6 := jA (Below.refl w6.heap.size w6)
       clear x3
       go_wp2
       go_loopw [14, 15] (fun u14 u15 wr => ∃ k : Nat, k ≤ d.acts.length ∧ u14 = .int .u16 ((maskN f k : Nat) : Int) ∧ u15 = .int .i64 k ∧ Aside0 (Below w6.heap.size w6 wr)) (fun _ u15 _ => d.acts.length - (intOf u15).toNat)
       case atStart => exact ⟨0, by omega, rfl, rfl, HW6⟩
       case round =>
        clear HW6
        obtain ⟨k, hk, rfl, rfl, HM7⟩ := hrel
        have hbx := HX3.out _ HM7.out
        have x0 := hbx.cell 0
        simp only [Jt, Ju, Jv] at x0
        by_cases hc : k < d.acts.length ∧ 0 < nr
        ·obtain ⟨hka, hnr⟩ := hc
         have c01 : (k : Int) < d.acts.length := by omega
         have c02 : (k : Int) < 16 := by omega
         have c03 : (0 : Int) < (nr : Int) := by omega
         have hpin := HP3.out _ HM7.out
         obtain ⟨ad3, q3, hx3⟩ := Kd.at_string hpin.h3 (j : Int) (by omega) (by simpa using hltj')
         have q3 : A3 = some ad3 := q3
         subst q3
         obtain ⟨ad0, q0, hx0⟩ := Kd.at_string hpin.h0 (k : Int) (by omega) (by simpa using c01)
         have q0 : A0 = some ad0 := q0
         subst q0
         simp only [Int.toNat_natCast] at hx3 hx0
         rw [show rdOf ByteArray.empty d.objs (j : Int) = d.objs[j] by simp [rdOf, hltj]] at hx3
         rw [show rdOf ByteArray.empty d.acts (k : Int) = d.acts[k] by simp [rdOf, hka]] at hx0
         have MG0 := fun (W : World) (hb : Below w6.heap.size w6 W) => may_go (HP3.out W hb) (c := cr) s d.objs[j] d.acts[k] (Kd.C_below HCR.out hb) HNR.out.symm HNC.out HF.out.exc (fun r hr => HF.out.each r (by rw [HRU.out] at hr; exact (List.mem_filter.1 hr).1))
         simp only [Pol.cells] at MG0
         have hfk := HFL.out k hka
         rw [← hfk] at MG0
         obtain ⟨o, hoo⟩ : ∃ o, o = d.objs[j] := ⟨_, rfl⟩
         obtain ⟨a, haa⟩ : ∃ a, a = d.acts[k] := ⟨_, rfl⟩
         rw [← hoo] at hx3 MG0
         rw [← haa] at hx0 MG0
         have hlm := maskN_lt f k
         have Ze : maskN f k < 65536 := by
          have h2 : 2 ^ k ≤ 2 ^ 16 := Nat.pow_le_pow_right (by omega) (by omega)
          omega
         obtain ⟨q, hq⟩ : ∃ q, f k = q := ⟨_, rfl⟩
         rw [hq] at MG0
         have MG := jA MG0
         obtain ⟨mk, hm⟩ : ∃ mk, mk = maskN f k := ⟨_, rfl⟩
         have hnext : maskN f (k + 1) = mk ||| (if q then 2 ^ k else 0) := by rw [maskN, hq, ← hm]
         rw [← hm] at Ze ⊢
         have HNX : Aside0 (q = true → ((maskN f (k + 1) : Nat) : Int) = Go.bits .or .u16 (mk : Int) (IntKind.wrap .u16 (2 ^ k))) := ⟨fun h => by
          rw [h] at hnext
          rw [hnext, if_pos rfl]
          have h2 := or_shl mk k Ze (by omega)
          rw [← h2]
          congr 1
          simp only [shl]
          rw [show min (k : Int).toNat IntKind.u16.bits = k from by simp only [Int.toNat_natCast, IntKind.bits]; omega]
          simp⟩
         have HNF : Aside0 (q = false → maskN f (k + 1) = mk) := ⟨fun h => by
          rw [h] at hnext
          rw [hnext]
          simp⟩
         have HX0 := jA (show wr.drew.cell? _ = _ from hx0)
         have HX3' := jA (show wr.drew.cell? _ = _ from hx3)
         have HSB := jA hbx
         clear hpin MG0 hfk hoo haa hlm Ze hq hm hnext hx0 hx3 hbx
         go_upto_region 22 with fail
         refine start_ (n := 16) (S := fun w' => Stays w' w.heap.size #[.slice (some ad0) d.acts.length c0, .slice (some ad1) d.subs.length c1, .slice A2 d.roles.length c2, .slice (some ad3) d.objs.length c3, .slice A4 d.grps.length c4, .slice A5 d.mem.length c5, .slice A6 d.inh.length c6, .slice A7 d.par.length c7, .slice A8 d.wit.length c8, .slice A9 d.rules.length c9, .slice A10 d.exc.length c10] 39 ∧ w'.cell? (ad3.add j) = some (.string o) ∧ w'.cell? (ad0.add k) = some (.string a)) (ds := []) (Jb 16 0) (by kernel_rfl) rfl (by kernel_rfl) ⟨HSB.out, HX3'.out, HX0.out⟩ (fun hHeld => ?_)
         refine take_ (i := 0) (N := some 93) (v := .agg (#[.slice (some ad0) d.acts.length c0, .slice (some ad1) d.subs.length c1, .slice A2 d.roles.length c2, .slice (some ad3) d.objs.length c3, .slice A4 d.grps.length c4, .slice A5 d.mem.length c5, .slice A6 d.inh.length c6, .slice A7 d.par.length c7, .slice A8 d.wit.length c8, .slice A9 d.rules.length c9, .slice A10 d.exc.length c10])) (a' := ?_) (Jb 16 1) rfl rfl (by kernel_rfl) (fun _ _ _ h => h) (yieldsIf_load_mid (by rfl) 39 (.tmp 1) rfl w.heap.size 0 rfl ((#[.slice (some ad0) d.acts.length c0, .slice (some ad1) d.subs.length c1, .slice A2 d.roles.length c2, .slice (some ad3) d.objs.length c3, .slice A4 d.grps.length c4, .slice A5 d.mem.length c5, .slice A6 d.inh.length c6, .slice A7 d.par.length c7, .slice A8 d.wit.length c8, .slice A9 d.rules.length c9, .slice A10 d.exc.length c10])).toList _ (fun w' hs => Stays.range (hs.1) _ rfl) Try.underlying39 rfl (by first | exact i39k | (simp; exact i39k))) hHeld ?_ ?_
         rotate_left
         ·simp only [Act.put, Jq, Jr, Js]
          rfl
         refine Jp 1 94 (Jb 16 3) rfl rfl ?_
         refine Jp 2 95 (Jb 16 7) rfl rfl ?_
         refine Jp 3 96 (Jb 16 15) rfl rfl ?_
         refine take_ (i := 4) (N := some 97) (v := ?_) (a' := ?_) (Jb 16 31) rfl rfl (by kernel_rfl) (fun _ _ _ h => h) (Or.inl ⟨by rfl, ?_⟩) hHeld ?_ ?_
         rotate_left
         ·rintro w' ⟨s0, s1, s2⟩
          have sc := s0.cell 3
          simp only [Jt, Ju, Jv] at sc
          go_simp
          with_reducible rfl
         rotate_left
         ·simp only [Act.put, Jq, Jr, Js]
          rfl
         refine Jp 5 98 (Jb 16 63) rfl rfl ?_
         refine Jp 6 99 (Jb 16 127) rfl rfl ?_
         refine Jk 7 100 (Jb 16 255) rfl rfl hHeld (.inl ⟨by rfl, by rintro w' ⟨s0, s1, s2⟩; go_simp; with_reducible rfl⟩) ?_
         refine Jp 8 101 (Jb 16 511) rfl rfl ?_
         refine take_ (i := 9) (N := some 102) (v := ?_) (a' := ?_) (Jb 16 1023) rfl rfl (by kernel_rfl) (fun _ _ _ h => h) (Or.inl ⟨by rfl, ?_⟩) hHeld ?_ ?_
         rotate_left
         ·rintro w' ⟨s0, s1, s2⟩
          have sc := s0.cell 0
          simp only [Jt, Ju, Jv] at sc
          go_simp
          with_reducible rfl
         rotate_left
         ·simp only [Act.put, Jq, Jr, Js]
          rfl
         refine Jp 10 103 (Jb 16 2047) rfl rfl ?_
         refine Jp 11 104 (Jb 16 4095) rfl rfl ?_
         refine Jk 12 105 (Jb 16 8191) rfl rfl hHeld (.inl ⟨by rfl, by rintro w' ⟨s0, s1, s2⟩; go_simp; with_reducible rfl⟩) ?_
         refine Jp 13 106 (Jb 16 16383) rfl rfl ?_
         refine one_ (i := 14) (N := some 107) (Jb 16 32767) rfl rfl (by kernel_rfl) (by decide) (fun K hK => ?_)
         refine goes_ Try.func69 (by kernel_rfl) rfl #[.agg #[.slice (some ad0) d.acts.length c0, .slice (some ad1) d.subs.length c1, .slice A2 d.roles.length c2, .slice (some ad3) d.objs.length c3, .slice A4 d.grps.length c4, .slice A5 d.mem.length c5, .slice A6 d.inh.length c6, .slice A7 d.par.length c7, .slice A8 d.wit.length c8, .slice A9 d.rules.length c9, .slice A10 d.exc.length c10], .slice Ar nr cr, .agg #[.string s, .string o, .string a]] (by rfl) rfl rfl (by (try simp only [List.map_toArray, List.map_cons, List.map_nil]); first | done | rfl) ?_
         refine (MG.out _ (below_then HM7.out HM7.out.size (below_drew (Below.refl wr.heap.size wr)))).mono ?_
         rintro e w8 ⟨rfl, hb⟩
         refine ⟨_, rfl, ?_⟩
         have hS := And.intro (hHeld.1.below hb) (And.intro (pw_cell_below hb hHeld.2.1) (pw_cell_below hb hHeld.2.2))
         have HM8 := jA (below_then HM7.out HM7.out.size (below_then (below_drew (Below.refl wr.heap.size wr)) (Nat.le_refl _) hb))
         clear hHeld hb
         refine hK.out _ _ hS (fun hHeld => ?_)
         clear hK K hS
         refine norm_ (a' := ?_) ?_ ?_; rotate_left; (show Act.put _ (some 107) _ = _; simp only [Act.put, Jq, Jr, Js]; rfl)
         refine Jp 15 16 (Jb 16 65535) rfl rfl ?_
         clear hHeld
         refine done_ (by kernel_rfl) ?_
         cases q with
         | false =>
          clear x0
          go_wp2
          go_roundw
          case rel => exact ⟨k + 1, by omega, congrArg (fun x : Nat => Value.int .u16 (x : Int)) (HNF.out rfl).symm, by go_num, HM8⟩
          case measure => simp [intOf]; omega
         | true =>
          clear x0
          go_wp2
          go_roundw
          case rel => exact ⟨k + 1, by omega, congrArg (Value.int .u16) (HNX.out rfl).symm, by go_num, HM8⟩
          case measure => simp [intOf]; omega
        ·have hmk : maskN f k = maskN f d.acts.length := by
          by_cases hka : k < d.acts.length
          ·have hnil : RU = [] := List.eq_nil_of_length_eq_zero (by have h1 := HNR.out; omega)
           have hz : ∀ x, x < d.acts.length → f x = false := by
            intro x hx
            rw [HFL.out x hx, hnil]; exact allows_nil _ _
           have hzz : ∀ x, x ≤ d.acts.length → maskN f x = 0 := by
            intro x hx
            refine Nat.eq_of_testBit_eq fun b => ?_
            rw [maskN_bit, Nat.zero_testBit]
            by_cases hb : b < x
            ·rw [hz b (by omega), Bool.and_false]
            ·simp [hb]
           rw [hzz k hk, hzz _ (Nat.le_refl _)]
          ·rw [show k = d.acts.length by omega]
         have HR8 := jA (Kd.R_below (Kd.R_below HR5.out HB6.out) HM7.out)
         have HM8 := jA (below_then HM6.out HM6.out.size HM7.out)
         have HSZ := jA HM8.out.size
         have HLr := jA (show (((List.range j).map (matD d i)).length + 1) * 2 ≤ 140737488355328 by simp; omega)
         rw [hmk, HFM.out]
         obtain ⟨q, hq⟩ : ∃ q, q = matD d i j := ⟨_, rfl⟩
         have HRN := jA (show (List.range (j + 1)).map (matD d i) = (List.range j).map (matD d i) ++ [q] by rw [List.range_succ, List.map_append, hq]; rfl)
         rw [← hq]
         clear hmk hq hbx
         rcases (show (¬ ((k : Int) < d.acts.length)) ∨ ((k : Int) < d.acts.length ∧ (k : Int) < 16 ∧ ¬ ((0 : Int) < (nr : Int))) by omega) with e1 | ⟨e1, e2, e3⟩
         ·go_wp2_with ((with_reducible refine gate_builtin (b := .append) (xs := #[.tmp 113, .tmp 115]) rfl ?_); at_builtin; refine Kd.R_append (Kd.int .u16) (w0 := Wb) Wb.heap.size rfl (.tmp 113) (.tmp 115) 32 31 (.int .u16 0) 2 rfl Try.underlying32 PG.info31 rfl (by decide) (by decide) _ ((List.range j).map (matD d i)) q [.int .u16 q] (fun _ => True) (fun _ => False) rfl rfl rfl (fun _ hk => hk.elim) (fun _ _ => trivial) HR8.out HM8.out HSZ.out HLr.out ?_; intro v2 w2 hR2 hB2 hg2 Zc; have HR9 := jA hR2; have HM9 := jA hB2; clear hR2 hB2 hg2 Zc)
          go_roundw
          case rel => exact ⟨j + 1, by omega, by go_num, ⟨by rw [HRN.out]; exact HR9.out⟩, HM9⟩
          case measure => simp [intOf]; omega
         ·go_wp2_with ((with_reducible refine gate_builtin (b := .append) (xs := #[.tmp 113, .tmp 115]) rfl ?_); at_builtin; refine Kd.R_append (Kd.int .u16) (w0 := Wb) Wb.heap.size rfl (.tmp 113) (.tmp 115) 32 31 (.int .u16 0) 2 rfl Try.underlying32 PG.info31 rfl (by decide) (by decide) _ ((List.range j).map (matD d i)) q [.int .u16 q] (fun _ => True) (fun _ => False) rfl rfl rfl (fun _ hk => hk.elim) (fun _ _ => trivial) HR8.out HM8.out HSZ.out HLr.out ?_; intro v2 w2 hR2 hB2 hg2 Zc; have HR9 := jA hR2; have HM9 := jA hB2; clear hR2 hB2 hg2 Zc)
          go_roundw
          case rel => exact ⟨j + 1, by omega, by go_num, ⟨by rw [HRN.out]; exact HR9.out⟩, HM9⟩
          case measure => simp [intOf]; omega
      ·have hj2 : j = d.objs.length := by omega
       subst hj2
       have hltj' : ¬ ((d.objs.length : Int) < d.objs.length) := by omega
       obtain ⟨Ar, cr, er⟩ := Kd.R_slice HR5.out
       obtain ⟨nr, hnr⟩ : ∃ nr, nr = ((List.range d.objs.length).map (matD d i)).length := ⟨_, rfl⟩
       rw [← hnr] at er
       subst er
       have HRo := jA (show Kd.R (Kd.int .u16) 31 wr W1.heap.size (fun _ => True) (.slice Ar nr cr) (rowD d i) from Kd.R_lower HR5.out HM4.out.size)
       have HBo := jA (below_then HB4.out HB4.out.size HM5.out)
       have HMo := jA (below_then HM4.out HM4.out.size HM5.out)
       have HRr := jA (Kd.R_below HR2.out HBo.out)
       have HKo := jA (fun q v hv => Kd.R_below (HK2.out q v hv) HBo.out)
       have HSZ := jA HMo.out.size
       have HLm := jA (show ((hs2.map hd1).length + 1) * 24 ≤ 140737488355328 by rw [List.length_map, HN2.out]; omega)
       have HPM := jA (show (Kd.raw 1).M wr W1.heap.size (fun _ => False) (hd1 (.slice Ar nr cr)) [.slice Ar nr cr] from ⟨rfl, rfl, fun u hu => by rw [List.mem_singleton.1 hu]; rfl⟩)
       clear hnr
       go_wp2_with ((with_reducible refine gate_builtin (b := .append) (xs := #[.tmp 117, .tmp 119]) rfl ?_); at_builtin; refine Kd.R_append (Kd.raw 1) (w0 := W1) W1.heap.size rfl (.tmp 117) (.tmp 119) 24 32 (.slice none 0 0) 24 rfl Try.underlying24 OTab.infR rfl (by decide) (by decide) _ (hs2.map hd1) (hd1 (.slice Ar nr cr)) [.slice Ar nr cr] (fun _ => True) (fun _ => False) rfl rfl HPM.out (fun _ hk => hk.elim) (fun _ _ => trivial) HRr.out HMo.out HSZ.out HLm.out ?_; intro v2 w2 hR2 hB2 hg2 Zc; have HR9 := jA hR2; have HM9 := jA hB2; have HK9 := jA (all_snoc (P := fun q v => Kd.R (Kd.int .u16) 31 w2 W1.heap.size (fun _ => True) v (rowD d q)) (fun q v hv => col_stay (HKo.out q v hv) HRr.out hg2) (by rw [HN2.out]; exact col_stay HRo.out HRr.out hg2)); clear hR2 hB2 hg2 Zc)
       go_roundw
       case rel => exact ⟨i + 1, hs2 ++ [.slice Ar nr cr], by omega, by go_num, ⟨by simp [HN2.out]⟩, HK9, ⟨by rw [List.map_append]; exact HR9.out⟩, HM9⟩
       case measure => simp [intOf]; omega
    ·have hi2 : i = d.subs.length := by omega
     subst hi2
     have hlt' : ¬ ((d.subs.length : Int) < d.subs.length) := by omega
     obtain ⟨Ao, co, eo⟩ := Kd.R_slice HR2.out
     rw [List.length_map, HN2.out] at eo
     subst eo
     obtain ⟨h1, h2, h3⟩ := Kd.R_reads' HR2.out
     have hl : hs2.length = (tabD d).length := by rw [HN2.out]; simp [tabD]
     have hC : (Kd.slice 31 (Kd.int .u16)).C wr Ao d.subs.length (tabD d) := by
      refine C_of_raw (by rw [List.length_map, HN2.out] at h3; exact h3) (by rw [List.length_map, hl]) (fun q x cc hx hc => ?_)
      rw [List.getElem?_map] at hc
      obtain ⟨v, hv, rfl⟩ := Option.map_eq_some_iff.1 hc
      have hR := HK2.out q v hv
      have hq : q < d.subs.length := by have := (List.getElem?_eq_some_iff.1 hv).1; rw [HN2.out] at this; exact this
      have ex : rowD d q = x := by
       have : (tabD d)[q]? = some (rowD d q) := by simp [tabD, hq]
       rw [this] at hx; exact Option.some.inj hx
      rw [ex] at hR
      obtain ⟨A', c', rfl, hl', hC'⟩ := Kd.R_reads hR
      exact ⟨A', c', rfl, hl', hC'⟩
     have HC := jA hC
     have HH2 := jA h2
     clear hC h1 h2 h3 hl hlt hi
     go_wp2
     go_ret
     exact ⟨_, _, rfl, HH2.out, HC.out, below_then HB1.out HB1.out.size HM2.out⟩
end Go.Proofs.Ythaiodklfoegiaa.OTab
