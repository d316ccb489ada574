/- Of this session's texts, what the row uses: QReads, PGx14, PGx15, OSame, OLawA, OLaw. -/
import Derived.Test.YthaiodklfoegiaaZ6
import Derived.Test.YthaiodklfoegiaaZ8
import Derived.Test.YthaiodklfoegiaaZ1
import Derived.Deep.DeepCutAuto
import Derived.Test.YthaiodklfoegiaaZ4
set_option linter.unusedSimpArgs false
set_option linter.unusedVariables false
set_option maxHeartbeats 8000000
set_option maxRecDepth 100000
/- gatehouselaw11.roomy: what it hands back, as what reads. -/
namespace Go.Proofs.Ythaiodklfoegiaa.QReads
open Go.RowKit YthaiodklfoegiaaW.PrintWords YthaiodklfoegiaaW.PrintLast YthaiodklfoegiaaW.PrintMore Go.Maps
open PG YthaiodklfoegiaaF BRow MPut CSame GDiffer MSide MPol OBase OGr QRoomB QUntP QUnt
theorem ext_reads {α : Type} {d : Kd α} {e base n c : Nat} {ok : Nat → Prop} {w : World} {A : Option Addr} {l : List α} {x : α} (h : d.R e w base ok (.slice A (n + 1) c) (l ++ [x])) (hn : l.length = n) : d.C w A n l ∧ n ≤ c ∧ d.C w A (n + 1) (l ++ [x]) ∧ n + 1 ≤ c := by
 obtain ⟨h1, h2, h3⟩ := Kd.R_reads' h
 have ht := Kd.R_take (m := n) h (by rw [List.length_append, hn]; simp)
 rw [show (l ++ [x]).take n = l by rw [← hn]; simp] at ht
 obtain ⟨_, t2, t3⟩ := Kd.R_reads' ht
 rw [hn] at t3
 have he : (l ++ [x]).length = n + 1 := by simp [hn]
 rw [he] at h3
 exact ⟨t3, t2, h3, h2⟩
theorem rules_K {w : World} {base : Nat} {x : TR} (h : Kd.R Kd.string 9 w base (fun _ => True) (.slice x.2.1 (x.1.f3.length + 1) x.2.2) (x.1.f3 ++ [sh])) : k78.K w x.1 (rcell x) := by
 obtain ⟨h1, h2, _, _⟩ := ext_reads h rfl
 exact k78_mk w x.1 h2 h1
theorem roomy_reads (p : Pol) (w : World) (hp : p.In w) (hd : QRoom.Lens p.d) :
  Calls Try.prog 15 #[.agg p.cells] w fun e w' => ∃ (q : Pol) (r : RA), e = .returned (.agg (roomV q r)) ∧ q.d = p.d ∧ q.In w' ∧ r.In p.d w' ∧ Below w.heap.size w w' := by
 refine (QRoom.roomy_calls p w hp hd).mono ?_
 rintro e w' ⟨d, Ba, ka, C1, j1, Br, kr, Bo, ko, Bg, kg, B5, k5, B6, k6, B7, k7, B8, k8, C9, j9, C10, j10, Bl, kl, T, rfl, rfl, hT, hall, hb⟩
 obtain ⟨a0, b0, m0, n0⟩ := ext_reads (hall.get 12 rfl : Kd.R Kd.string 9 w' w.heap.size (fun _ => True) (.slice Ba (p.d.acts.length + 1) ka) (p.d.acts ++ [sh])) rfl
 obtain ⟨a1, b1, m1, n1⟩ := ext_reads (hall.get 8 rfl : Kd.R k54 54 w' w.heap.size (fun _ => True) (.slice C1 (p.d.subs.length + 1) j1) (p.d.subs ++ ([⟨sh, 0⟩] : List S54))) rfl
 obtain ⟨a2, b2, m2, n2⟩ := ext_reads (hall.get 11 rfl : Kd.R Kd.string 9 w' w.heap.size (fun _ => True) (.slice Br (p.d.roles.length + 1) kr) (p.d.roles ++ [sh])) rfl
 obtain ⟨a3, b3, m3, n3⟩ := ext_reads (hall.get 10 rfl : Kd.R Kd.string 9 w' w.heap.size (fun _ => True) (.slice Bo (p.d.objs.length + 1) ko) (p.d.objs ++ [sh])) rfl
 obtain ⟨a4, b4, m4, n4⟩ := ext_reads (hall.get 9 rfl : Kd.R Kd.string 9 w' w.heap.size (fun _ => True) (.slice Bg (p.d.grps.length + 1) kg) (p.d.grps ++ [sh])) rfl
 obtain ⟨a5, b5, m5, n5⟩ := ext_reads (hall.get 7 rfl : Kd.R k108 108 w' w.heap.size (fun _ => True) (.slice B5 (p.d.mem.length + 1) k5) (p.d.mem ++ ([⟨sh, e0⟩] : List S108))) rfl
 obtain ⟨a6, b6, m6, n6⟩ := ext_reads (hall.get 6 rfl : Kd.R k108 108 w' w.heap.size (fun _ => True) (.slice B6 (p.d.inh.length + 1) k6) (p.d.inh ++ ([⟨sh, e0⟩] : List S108))) rfl
 obtain ⟨a7, b7, m7, n7⟩ := ext_reads (hall.get 5 rfl : Kd.R k108 108 w' w.heap.size (fun _ => True) (.slice B7 (p.d.par.length + 1) k7) (p.d.par ++ ([⟨sh, e0⟩] : List S108))) rfl
 obtain ⟨a8, b8, m8, n8⟩ := ext_reads (hall.get 4 rfl : Kd.R k108 108 w' w.heap.size (fun _ => True) (.slice B8 (p.d.wit.length + 1) k8) (p.d.wit ++ ([⟨sh, e0⟩] : List S108))) rfl
 obtain ⟨a10, b10, m10, n10⟩ := ext_reads (hall.get 0 rfl : Kd.R k28 28 w' w.heap.size (fun _ => True) (.slice C10 (p.d.exc.length + 1) j10) (p.d.exc ++ ([⟨sh, e0, e0⟩] : List S28))) rfl
 have hTl : T.length = p.d.rules.length := by rw [← hT, List.length_map]
 have hE : ∀ x ∈ T, Kd.R Kd.string 9 w' w.heap.size (fun _ => True) (.slice x.2.1 (x.1.f3.length + 1) x.2.2) (x.1.f3 ++ [sh]) := hall.get 3 (E := entEach w.heap.size T) rfl
 have hget : ∀ (j : Nat) (x : S78), p.d.rules[j]? = some x → ∃ y, T[j]? = some y ∧ y.1 = x := by
  intro j x hj
  rw [← hT, List.getElem?_map] at hj
  exact Option.map_eq_some_iff.1 hj
 obtain ⟨a9, b9, m9, n9⟩ := ext_reads (hall.get 1 rfl : Kd.R (Kd.raw 6) 78 w' w.heap.size (fun _ => True) (.slice C9 (p.d.rules.length + 1) j9) (T.map rcell ++ ([[Value.bool false, .string sh, .string e0, .slice none 0 0, .int .i8 0, .float .f64 0]] : List (List Value)))) (by rw [List.length_map, hTl])
 have hC9 : Kd.C k78 w' C9 p.d.rules.length p.d.rules := OBase.C_of_raw (d := k78) a9 (by rw [List.length_map, hTl]) (fun j x c hx hc => by
  obtain ⟨y, hy, rfl⟩ := hget j x hx
  rw [List.getElem?_map, hy] at hc
  cases hc
  exact rules_K (hE y (List.mem_of_getElem? hy)))
 have hF9 : Kd.C k78 w' C9 (p.d.rules.length + 1) (p.d.rules ++ ([⟨false, sh, e0, [], 0, 0⟩] : List S78)) := OBase.C_of_raw (d := k78) m9 (by simp [hTl]) (fun j x c hx hc => by
  rcases Nat.lt_or_ge j p.d.rules.length with hlt | hge
  ·rw [List.getElem?_append_left hlt] at hx
   rw [List.getElem?_append_left (by rw [List.length_map, hTl]; exact hlt)] at hc
   obtain ⟨y, hy, rfl⟩ := hget j x hx
   rw [List.getElem?_map, hy] at hc
   cases hc
   exact rules_K (hE y (List.mem_of_getElem? hy))
  ·rw [List.getElem?_append_right hge] at hx
   rw [List.getElem?_append_right (by rw [List.length_map, hTl]; exact hge), List.length_map, hTl] at hc
   have h0 : j - p.d.rules.length = 0 := by
    have := (List.getElem?_eq_some_iff.1 hx).1
    simp at this
    omega
   rw [h0] at hx hc
   cases hx; cases hc
   exact k78_mk w' _ (Nat.le_refl 0) ⟨rfl, by decide, fun h => by simp at h⟩)
 obtain ⟨_, cl, hl⟩ := Kd.R_reads' (hall.get 2 rfl : Kd.R (Kd.raw 1) 22 w' w.heap.size (fun _ => True) (.slice Bl p.d.rules.length kl) (T.map lcell))
 rw [List.length_map, hTl] at hl
 have hCl : Kd.C (Kd.slice 9 Kd.string) w' Bl p.d.rules.length (p.d.rules.map (fun x => x.f3 ++ [sh])) := OBase.C_of_raw (d := Kd.slice 9 Kd.string) hl (by rw [List.length_map, List.length_map, hTl]) (fun j x c hx hc => by
  rw [List.getElem?_map] at hx
  obtain ⟨r, hr, rfl⟩ := Option.map_eq_some_iff.1 hx
  obtain ⟨y, hy, rfl⟩ := hget j r hr
  rw [List.getElem?_map, hy] at hc
  cases hc
  obtain ⟨_, _, h3, h4⟩ := ext_reads (hE y (List.mem_of_getElem? hy)) rfl
  have he : (y.1.f3 ++ [sh]).length = y.1.f3.length + 1 := by simp
  exact ⟨y.2.1, y.2.2, by rw [he]; rfl, by rw [he]; exact h4, by rw [he]; exact h3⟩)
 exact ⟨Pol.mk p.d Ba ka C1 j1 Br kr Bo ko Bg kg B5 k5 B6 k6 B7 k7 B8 k8 C9 j9 C10 j10, RA.mk Ba ka C1 j1 Br kr Bo ko Bg kg B5 k5 B6 k6 B7 k7 B8 k8 C9 j9 C10 j10 Bl kl, rfl, rfl, ⟨a0, a1, a2, a3, a4, a5, a6, a7, a8, hC9, a10, b0, b1, b2, b3, b4, b5, b6, b7, b8, b9, b10⟩, ⟨m0, n0, m1, n1, m2, n2, m3, n3, m4, n4, m5, n5, m6, n6, m7, n7, m8, n8, hF9, n9, m10, n10, hCl, cl⟩, hb⟩
end Go.Proofs.Ythaiodklfoegiaa.QReads
namespace Go.Proofs.Ythaiodklfoegiaa.PG
open YthaiodklfoegiaaF
attribute [local go_sem high] run_feq run_fne run_flt_lt run_flt_le run_flt_gt run_flt_ge
open Go.RowKit YthaiodklfoegiaaW.PrintWords YthaiodklfoegiaaW.PrintLast YthaiodklfoegiaaW.PrintMore
attribute [local go_sem] max2_int min2_int max_two min_two max_three min_three max_four min_four
def gatehouseref11_texts.l0 : Nat → List ByteArray → List ByteArray → Int → Option (Bool)
 | 0, _, _, _ => none
 | k + 1, x0, x1, x5 => if x5 < (x0.length : Int) then (if 0 ≤ x5 then (if x5 < (x1.length : Int) then (if (rdOf ByteArray.empty x0 x5).toList = (rdOf ByteArray.empty x1 x5).toList then (gatehouseref11_texts.l0 k x0 x1 (wrap64 (x5 + 1))) else (some false)) else (none)) else (none)) else (some true)
def gatehouseref11_texts.f (k : Nat) (l0 : List ByteArray) (l1 : List ByteArray) : Option (Bool) := if (l0.length : Int) = (l1.length : Int) then (gatehouseref11_texts.l0 k l0 l1 0) else (some false)
theorem gatehouseref11_texts.calls (k : Nat) (A0 : Option Addr) (c0 : Nat) (l0 : List ByteArray) (A1 : Option Addr) (c1 : Nat) (l1 : List ByteArray) (r : Bool) (w : World) (hr0 : Kd.C Kd.string w A0 l0.length l0) (hc0 : l0.length ≤ c0) (hr1 : Kd.C Kd.string w A1 l1.length l1) (hc1 : l1.length ≤ c1) (h : gatehouseref11_texts.f k l0 l1 = some r) :
  Calls Try.prog 53 #[.slice A0 l0.length c0, .slice A1 l1.length c1] w fun e w' => e = .returned (.bool r) ∧ Drawn0 w w' := by
 have HR0 := jA hr0
 have HC0 := jA hc0
 clear hr0 hc0
 have HR1 := jA hr1
 have HC1 := jA hc1
 clear hr1 hc1
 have H : (if (l0.length : Int) = (l1.length : Int) then (gatehouseref11_texts.l0 k l0 l1 0) else (some false)) = some r := h
 clear h
 by_cases c3 : (l0.length : Int) = (l1.length : Int)
 ·rw [if_pos c3] at H
  have c3b0 : ((l0.length : Int) == (l1.length : Int)) = true := beq_iff_eq.mpr c3
  have c3b1 : ((l0.length : Int) != (l1.length : Int)) = false := bne_eq_false_iff_eq.mpr c3
  have c3b2 : (l0.length == l1.length) = true := by first | simpa using c3 | (simp at c3 ⊢; omega)
  clear c3
  have H' := jA H
  clear H
  go_enter Try.func53, Try.ntmps53
  go_wp2
  repeat (go_quiet (fail); try go_wp2)
  go_loopg [5] k (fun kq v5 w' => ∃ (Za : Int), v5 = .int .i64 Za ∧ Aside0 (gatehouseref11_texts.l0 kq l0 l1 Za = some r) ∧ Aside0 (kq ≤ k) ∧ Drawn0 w w')
  case atStart => exact ⟨(0), (by first | rfl | (simp; done) | (simp [*]; done)), H', ⟨Nat.le_refl _⟩, by repeat (first | exact Drawn0.refl _ | apply Drawn0.step)⟩
  case round =>
   clear H'
   try clear c1
   try clear p2
   try clear c3
   try clear c3b0
   try clear c3b1
   try clear c3b2
   obtain ⟨Za, rfl, HA, HK1, ⟨m1, rfl⟩⟩ := hrel
   cases gk with
   | zero => exact absurd HA.out (by simp [gatehouseref11_texts.l0])
   | succ k1 =>
    have H := HA.out
    clear HA
    simp only [gatehouseref11_texts.l0] at H
    by_cases c4 : Za < (l0.length : Int)
    ·rw [if_pos c4] at H
     have c4b0 : decide (Za < (l0.length : Int)) = true := decide_eq_true c4
     clear c4
     by_cases c5 : 0 ≤ Za
     ·rw [if_pos c5] at H
      have c5b0 : decide (0 ≤ Za) = true := decide_eq_true c5
      clear c5
      by_cases c6 : Za < (l1.length : Int)
      ·rw [if_pos c6] at H
       have c6b0 : decide (Za < (l1.length : Int)) = true := decide_eq_true c6
       clear c6
       by_cases c7 : (rdOf ByteArray.empty l0 Za).toList = (rdOf ByteArray.empty l1 Za).toList
       ·rw [if_pos c7] at H
        have c7b0 : ((rdOf ByteArray.empty l0 Za).toList == (rdOf ByteArray.empty l1 Za).toList) = true := beq_iff_eq.mpr c7
        have c7b1 : ((rdOf ByteArray.empty l0 Za).toList != (rdOf ByteArray.empty l1 Za).toList) = false := bne_eq_false_iff_eq.mpr c7
        clear c7
        have H' := jA H
        clear H
        have Zb : 0 ≤ (Za : Int) := of_decide_eq_true (by first | (with_reducible assumption) | assumption)
        have Zc : Za < (l0.length : Int) := of_decide_eq_true (by first | (with_reducible assumption) | assumption)
        obtain ⟨Zj, Zh, Zf⟩ := Kd.at_string HR0.out Za Zb Zc
        cases Zh
        replace Zb := eq_true Zb
        replace Zc := eq_true Zc
        have Zd : 0 ≤ (Za : Int) := of_decide_eq_true (by first | (with_reducible assumption) | assumption)
        have Ze : Za < (l1.length : Int) := of_decide_eq_true (by first | (with_reducible assumption) | assumption)
        obtain ⟨Zk, Zi, Zg⟩ := Kd.at_string HR1.out Za Zd Ze
        cases Zi
        replace Zd := eq_true Zd
        replace Ze := eq_true Ze
        go_wp2
        repeat (go_quiet (fail); try go_wp2)
        go_roundg k1
        case measure => have := HK1.out; omega
        case rel => exact ⟨(wrap64 (Za + 1)), (by first | rfl | (simp; done) | (simp [*]; done)), H', ⟨by have := HK1.out; omega⟩, by repeat (first | exact Drawn0.refl _ | apply Drawn0.step)⟩
       ·rw [if_neg c7] at H
        have c7b0 : ((rdOf ByteArray.empty l0 Za).toList == (rdOf ByteArray.empty l1 Za).toList) = false := beq_eq_false_iff_ne.mpr c7
        have c7b1 : ((rdOf ByteArray.empty l0 Za).toList != (rdOf ByteArray.empty l1 Za).toList) = true := bne_iff_ne.mpr c7
        obtain rfl := Option.some.inj H
        have Zb : 0 ≤ (Za : Int) := of_decide_eq_true (by first | (with_reducible assumption) | assumption)
        have Zc : Za < (l0.length : Int) := of_decide_eq_true (by first | (with_reducible assumption) | assumption)
        obtain ⟨Zj, Zh, Zf⟩ := Kd.at_string HR0.out Za Zb Zc
        cases Zh
        replace Zb := eq_true Zb
        replace Zc := eq_true Zc
        have Zd : 0 ≤ (Za : Int) := of_decide_eq_true (by first | (with_reducible assumption) | assumption)
        have Ze : Za < (l1.length : Int) := of_decide_eq_true (by first | (with_reducible assumption) | assumption)
        obtain ⟨Zk, Zi, Zg⟩ := Kd.at_string HR1.out Za Zd Ze
        cases Zi
        replace Zd := eq_true Zd
        replace Ze := eq_true Ze
        go_wp2
        repeat (go_quiet (fail); try go_wp2)
        go_ret
        exact ⟨by first | rfl | (simp; done) | (simp [*]; done), by repeat (first | exact Drawn0.refl _ | apply Drawn0.step)⟩
      ·rw [if_neg c6] at H
       exact absurd H (by simp)
     ·rw [if_neg c5] at H
      exact absurd H (by simp)
    ·rw [if_neg c4] at H
     have c4b0 : decide (Za < (l0.length : Int)) = false := decide_eq_false c4
     clear c4
     obtain rfl := Option.some.inj H
     go_wp2
     repeat (go_quiet (fail); try go_wp2)
     go_ret
     exact ⟨by first | rfl | (simp; done) | (simp [*]; done), by repeat (first | exact Drawn0.refl _ | apply Drawn0.step)⟩
 ·rw [if_neg c3] at H
  have c3b0 : ((l0.length : Int) == (l1.length : Int)) = false := beq_eq_false_iff_ne.mpr c3
  have c3b1 : ((l0.length : Int) != (l1.length : Int)) = true := bne_iff_ne.mpr c3
  have c3b2 : (l0.length == l1.length) = false := by first | simpa using c3 | (simp at c3 ⊢; omega)
  obtain rfl := Option.some.inj H
  go_enter Try.func53, Try.ntmps53
  go_wp2
  repeat (go_quiet (fail); try go_wp2)
  go_ret
  exact ⟨by first | rfl | (simp; done) | (simp [*]; done), by repeat (first | exact Drawn0.refl _ | apply Drawn0.step)⟩
end Go.Proofs.Ythaiodklfoegiaa.PG
namespace Go.Proofs.Ythaiodklfoegiaa.PG
open YthaiodklfoegiaaF
attribute [local go_sem high] run_feq run_fne run_flt_lt run_flt_le run_flt_gt run_flt_ge
open Go.RowKit YthaiodklfoegiaaW.PrintWords YthaiodklfoegiaaW.PrintLast YthaiodklfoegiaaW.PrintMore
attribute [local go_sem] max2_int min2_int max_two min_two max_three min_three max_four min_four
def gatehouseref11_numbers.l0 : Nat → List Int → List Int → Int → Option (Bool)
 | 0, _, _, _ => none
 | k + 1, x0, x1, x5 => if x5 < (x0.length : Int) then (if 0 ≤ x5 then (if x5 < (x1.length : Int) then (if (rd x0 x5) = (rd x1 x5) then (gatehouseref11_numbers.l0 k x0 x1 (wrap64 (x5 + 1))) else (some false)) else (none)) else (none)) else (some true)
def gatehouseref11_numbers.f (k : Nat) (l0 : List Int) (l1 : List Int) : Option (Bool) := if (l0.length : Int) = (l1.length : Int) then (gatehouseref11_numbers.l0 k l0 l1 0) else (some false)
theorem gatehouseref11_numbers.calls (k : Nat) (A0 : Option Addr) (c0 : Nat) (l0 : List Int) (A1 : Option Addr) (c1 : Nat) (l1 : List Int) (r : Bool) (w : World) (hr0 : Kd.C (Kd.int .i64) w A0 l0.length l0) (hc0 : l0.length ≤ c0) (hr1 : Kd.C (Kd.int .i64) w A1 l1.length l1) (hc1 : l1.length ≤ c1) (h : gatehouseref11_numbers.f k l0 l1 = some r) :
  Calls Try.prog 54 #[.slice A0 l0.length c0, .slice A1 l1.length c1] w fun e w' => e = .returned (.bool r) ∧ Drawn0 w w' := by
 have HR0 := jA hr0
 have HC0 := jA hc0
 clear hr0 hc0
 have HR1 := jA hr1
 have HC1 := jA hc1
 clear hr1 hc1
 have H : (if (l0.length : Int) = (l1.length : Int) then (gatehouseref11_numbers.l0 k l0 l1 0) else (some false)) = some r := h
 clear h
 by_cases c3 : (l0.length : Int) = (l1.length : Int)
 ·rw [if_pos c3] at H
  have c3b0 : ((l0.length : Int) == (l1.length : Int)) = true := beq_iff_eq.mpr c3
  have c3b1 : ((l0.length : Int) != (l1.length : Int)) = false := bne_eq_false_iff_eq.mpr c3
  have c3b2 : (l0.length == l1.length) = true := by first | simpa using c3 | (simp at c3 ⊢; omega)
  clear c3
  have H' := jA H
  clear H
  go_enter Try.func54, Try.ntmps54
  go_wp2
  repeat (go_quiet (fail); try go_wp2)
  go_loopg [5] k (fun kq v5 w' => ∃ (Za : Int), v5 = .int .i64 Za ∧ Aside0 (gatehouseref11_numbers.l0 kq l0 l1 Za = some r) ∧ Aside0 (kq ≤ k) ∧ Drawn0 w w')
  case atStart => exact ⟨(0), (by first | rfl | (simp; done) | (simp [*]; done)), H', ⟨Nat.le_refl _⟩, by repeat (first | exact Drawn0.refl _ | apply Drawn0.step)⟩
  case round =>
   clear H'
   try clear c1
   try clear p2
   try clear c3
   try clear c3b0
   try clear c3b1
   try clear c3b2
   obtain ⟨Za, rfl, HA, HK1, ⟨m1, rfl⟩⟩ := hrel
   cases gk with
   | zero => exact absurd HA.out (by simp [gatehouseref11_numbers.l0])
   | succ k1 =>
    have H := HA.out
    clear HA
    simp only [gatehouseref11_numbers.l0] at H
    by_cases c4 : Za < (l0.length : Int)
    ·rw [if_pos c4] at H
     have c4b0 : decide (Za < (l0.length : Int)) = true := decide_eq_true c4
     clear c4
     by_cases c5 : 0 ≤ Za
     ·rw [if_pos c5] at H
      have c5b0 : decide (0 ≤ Za) = true := decide_eq_true c5
      clear c5
      by_cases c6 : Za < (l1.length : Int)
      ·rw [if_pos c6] at H
       have c6b0 : decide (Za < (l1.length : Int)) = true := decide_eq_true c6
       clear c6
       by_cases c7 : (rd l0 Za) = (rd l1 Za)
       ·rw [if_pos c7] at H
        have c7b0 : ((rd l0 Za) == (rd l1 Za)) = true := beq_iff_eq.mpr c7
        have c7b1 : ((rd l0 Za) != (rd l1 Za)) = false := bne_eq_false_iff_eq.mpr c7
        clear c7
        have H' := jA H
        clear H
        have Zb : 0 ≤ (Za : Int) := of_decide_eq_true (by first | (with_reducible assumption) | assumption)
        have Zc : Za < (l0.length : Int) := of_decide_eq_true (by first | (with_reducible assumption) | assumption)
        obtain ⟨Zj, Zh, Zf⟩ := Kd.at_int HR0.out Za Zb Zc
        cases Zh
        replace Zb := eq_true Zb
        replace Zc := eq_true Zc
        have Zd : 0 ≤ (Za : Int) := of_decide_eq_true (by first | (with_reducible assumption) | assumption)
        have Ze : Za < (l1.length : Int) := of_decide_eq_true (by first | (with_reducible assumption) | assumption)
        obtain ⟨Zk, Zi, Zg⟩ := Kd.at_int HR1.out Za Zd Ze
        cases Zi
        replace Zd := eq_true Zd
        replace Ze := eq_true Ze
        go_wp2
        repeat (go_quiet (fail); try go_wp2)
        go_roundg k1
        case measure => have := HK1.out; omega
        case rel => exact ⟨(wrap64 (Za + 1)), (by first | rfl | (simp; done) | (simp [*]; done)), H', ⟨by have := HK1.out; omega⟩, by repeat (first | exact Drawn0.refl _ | apply Drawn0.step)⟩
       ·rw [if_neg c7] at H
        have c7b0 : ((rd l0 Za) == (rd l1 Za)) = false := beq_eq_false_iff_ne.mpr c7
        have c7b1 : ((rd l0 Za) != (rd l1 Za)) = true := bne_iff_ne.mpr c7
        obtain rfl := Option.some.inj H
        have Zb : 0 ≤ (Za : Int) := of_decide_eq_true (by first | (with_reducible assumption) | assumption)
        have Zc : Za < (l0.length : Int) := of_decide_eq_true (by first | (with_reducible assumption) | assumption)
        obtain ⟨Zj, Zh, Zf⟩ := Kd.at_int HR0.out Za Zb Zc
        cases Zh
        replace Zb := eq_true Zb
        replace Zc := eq_true Zc
        have Zd : 0 ≤ (Za : Int) := of_decide_eq_true (by first | (with_reducible assumption) | assumption)
        have Ze : Za < (l1.length : Int) := of_decide_eq_true (by first | (with_reducible assumption) | assumption)
        obtain ⟨Zk, Zi, Zg⟩ := Kd.at_int HR1.out Za Zd Ze
        cases Zi
        replace Zd := eq_true Zd
        replace Ze := eq_true Ze
        go_wp2
        repeat (go_quiet (fail); try go_wp2)
        go_ret
        exact ⟨by first | rfl | (simp; done) | (simp [*]; done), by repeat (first | exact Drawn0.refl _ | apply Drawn0.step)⟩
      ·rw [if_neg c6] at H
       exact absurd H (by simp)
     ·rw [if_neg c5] at H
      exact absurd H (by simp)
    ·rw [if_neg c4] at H
     have c4b0 : decide (Za < (l0.length : Int)) = false := decide_eq_false c4
     clear c4
     obtain rfl := Option.some.inj H
     go_wp2
     repeat (go_quiet (fail); try go_wp2)
     go_ret
     exact ⟨by first | rfl | (simp; done) | (simp [*]; done), by repeat (first | exact Drawn0.refl _ | apply Drawn0.step)⟩
 ·rw [if_neg c3] at H
  have c3b0 : ((l0.length : Int) == (l1.length : Int)) = false := beq_eq_false_iff_ne.mpr c3
  have c3b1 : ((l0.length : Int) != (l1.length : Int)) = true := bne_iff_ne.mpr c3
  have c3b2 : (l0.length == l1.length) = false := by first | simpa using c3 | (simp at c3 ⊢; omega)
  obtain rfl := Option.some.inj H
  go_enter Try.func54, Try.ntmps54
  go_wp2
  repeat (go_quiet (fail); try go_wp2)
  go_ret
  exact ⟨by first | rfl | (simp; done) | (simp [*]; done), by repeat (first | exact Drawn0.refl _ | apply Drawn0.step)⟩
end Go.Proofs.Ythaiodklfoegiaa.PG
/- gatehouseref11.Same, walked: equal graphs are found equal. -/
namespace Go.Proofs.Ythaiodklfoegiaa.OSame
open Go.RowKit YthaiodklfoegiaaW.PrintWords YthaiodklfoegiaaW.PrintLast YthaiodklfoegiaaW.PrintMore BRow GDiffer VPure CSame GValid MSide MPol OBase Go.Maps
open PG
theorem texts_l0 (l : List ByteArray) (hl : l.length ≤ 64) : ∀ (d n : Nat), n + d = l.length → Ev (fun k => gatehouseref11_texts.l0 k l l n) true
 | 0, n, h => by
  refine Ev.step (f := fun _ => some true) (fun k => ?_) (Ev.now _)
  simp only [gatehouseref11_texts.l0]
  rw [if_neg (by omega)]
 | d + 1, n, h => by
  refine Ev.step (fun k => ?_) (texts_l0 l hl d (n + 1) (by omega))
  simp only [gatehouseref11_texts.l0]
  rw [if_pos (by omega), if_pos (by omega), if_pos (by omega), if_pos trivial, w64n (m := 65) (by omega) (by omega)]
theorem texts_r (l : List ByteArray) (hl : l.length ≤ 64) : Ev (fun k => gatehouseref11_texts.f k l l) true :=
 Ev.congr (fun k => by unfold gatehouseref11_texts.f; rw [if_pos rfl]; rfl) (texts_l0 l hl l.length 0 (by omega))
theorem numbers_l0 (l : List Int) (hl : l.length ≤ 64) : ∀ (d n : Nat), n + d = l.length → Ev (fun k => gatehouseref11_numbers.l0 k l l n) true
 | 0, n, h => by
  refine Ev.step (f := fun _ => some true) (fun k => ?_) (Ev.now _)
  simp only [gatehouseref11_numbers.l0]
  rw [if_neg (by omega)]
 | d + 1, n, h => by
  refine Ev.step (fun k => ?_) (numbers_l0 l hl d (n + 1) (by omega))
  simp only [gatehouseref11_numbers.l0]
  rw [if_pos (by omega), if_pos (by omega), if_pos (by omega), if_pos trivial, w64n (m := 65) (by omega) (by omega)]
theorem numbers_r (l : List Int) (hl : l.length ≤ 64) : Ev (fun k => gatehouseref11_numbers.f k l l) true :=
 Ev.congr (fun k => by unfold gatehouseref11_numbers.f; rw [if_pos rfl]; rfl) (numbers_l0 l hl l.length 0 (by omega))
theorem texts_go {A B : Option Addr} {c k n : Nat} {l : List ByteArray} {w : World} (hl : l.length ≤ 64) (hn : l.length = n) (h1 : Kd.string.C w A n l) (hc : n ≤ c) (h2 : Kd.string.C w B n l) (hk : n ≤ k) :
  Calls Try.prog 53 #[.slice A n c, .slice B n k] w fun e w' => e = .returned (.bool true) ∧ Below w.heap.size w w' := by
 subst hn
 obtain ⟨K, h⟩ := (texts_r l hl).rounds
 exact (gatehouseref11_texts.calls K A c l B k l true w h1 hc h2 hk h).mono fun e w' ⟨he, hd⟩ => ⟨he, hd.below⟩
theorem numbers_go {A B : Option Addr} {c k n : Nat} {l : List Int} {w : World} (hl : l.length ≤ 64) (hn : l.length = n) (h1 : (Kd.int .i64).C w A n l) (hc : n ≤ c) (h2 : (Kd.int .i64).C w B n l) (hk : n ≤ k) :
  Calls Try.prog 54 #[.slice A n c, .slice B n k] w fun e w' => e = .returned (.bool true) ∧ Below w.heap.size w w' := by
 subst hn
 obtain ⟨K, h⟩ := (numbers_r l hl).rounds
 exact (gatehouseref11_numbers.calls K A c l B k l true w h1 hc h2 hk h).mono fun e w' ⟨he, hd⟩ => ⟨he, hd.below⟩
theorem equal_go {A B : Option Addr} {c k n : Nat} {l : List Int} {w : World} (hl : l.length ≤ 64) (hn : l.length = n) (h1 : (Kd.int .u16).C w A n l) (hc : n ≤ c) (h2 : (Kd.int .u16).C w B n l) (hk : n ≤ k) :
  Calls Try.prog 39 #[.slice A n c, .slice B n k] w fun e w' => e = .returned (.bool true) ∧ Below w.heap.size w w' := by
 subst hn
 obtain ⟨K, h⟩ := (equal_f l l (by omega)).rounds
 rw [decide_eq_true rfl] at h
 exact (gatehouseref11_equal.calls K A c l B k l true w h1 hc h2 hk h).mono fun e w' ⟨he, hd⟩ => ⟨he, hd.below⟩
theorem same_calls (A0 : Option Addr) (c0 : Nat) (A1 : Option Addr) (c1 : Nat) (A2 : Option Addr) (c2 : Nat) (A3 : Option Addr) (c3 : Nat) (A4 : Option Addr) (c4 : Nat) (A5 : Option Addr) (c5 : Nat) (B0 : Option Addr) (k0 : Nat) (B1 : Option Addr) (k1 : Nat) (B2 : Option Addr) (k2 : Nat) (B3 : Option Addr) (k3 : Nat) (B4 : Option Addr) (k4 : Nat) (B5 : Option Addr) (k5 : Nat) (la ls lo : List ByteArray) (of on : List Int) (ms : List (List Int))
  (f0 : la.length ≤ 64) (f1 : ls.length ≤ 64) (f2 : lo.length ≤ 64) (f3 : of.length ≤ 64) (f4 : on.length ≤ 64) (f5 : ms.length ≤ 64) (f6 : ∀ r ∈ ms, r.length ≤ 64) (w : World)
  (h1 : (G.mk A0 c0 la A1 c1 ls A2 c2 lo A3 c3 of A4 c4 on A5 c5 ms).In w) (h2 : (G.mk B0 k0 la B1 k1 ls B2 k2 lo B3 k3 of B4 k4 on B5 k5 ms).In w) :
  Calls Try.prog 18 #[.agg #[.slice A0 la.length c0, .slice A1 ls.length c1, .slice A2 lo.length c2, .slice A3 of.length c3, .slice A4 on.length c4, .slice A5 ms.length c5], .agg #[.slice B0 la.length k0, .slice B1 ls.length k1, .slice B2 lo.length k2, .slice B3 of.length k3, .slice B4 on.length k4, .slice B5 ms.length k5]] w fun e w' => e = .returned (.bool true) ∧ Below w.heap.size w w' := by
 have hs1 : Stays ((w.alloc (.cells #[.slice A0 la.length c0, .slice A1 ls.length c1, .slice A2 lo.length c2, .slice A3 of.length c3, .slice A4 on.length c4, .slice A5 ms.length c5] 26)).alloc (.cells #[.slice B0 la.length k0, .slice B1 ls.length k1, .slice B2 lo.length k2, .slice B3 of.length k3, .slice B4 on.length k4, .slice B5 ms.length k5] 26)) w.heap.size #[.slice A0 la.length c0, .slice A1 ls.length c1, .slice A2 lo.length c2, .slice A3 of.length c3, .slice A4 on.length c4, .slice A5 ms.length c5] 26 := (show Stays (w.alloc (.cells #[.slice A0 la.length c0, .slice A1 ls.length c1, .slice A2 lo.length c2, .slice A3 of.length c3, .slice A4 on.length c4, .slice A5 ms.length c5] 26)) w.heap.size #[.slice A0 la.length c0, .slice A1 ls.length c1, .slice A2 lo.length c2, .slice A3 of.length c3, .slice A4 on.length c4, .slice A5 ms.length c5] 26 from heap_alloc_new w _).below (below_alloc (Below.refl _ _) _)
 have hs2 : Stays ((w.alloc (.cells #[.slice A0 la.length c0, .slice A1 ls.length c1, .slice A2 lo.length c2, .slice A3 of.length c3, .slice A4 on.length c4, .slice A5 ms.length c5] 26)).alloc (.cells #[.slice B0 la.length k0, .slice B1 ls.length k1, .slice B2 lo.length k2, .slice B3 of.length k3, .slice B4 on.length k4, .slice B5 ms.length k5] 26)) (w.heap.size + 1) #[.slice B0 la.length k0, .slice B1 ls.length k1, .slice B2 lo.length k2, .slice B3 of.length k3, .slice B4 on.length k4, .slice B5 ms.length k5] 26 := by
  have h := heap_alloc_new (w.alloc (.cells #[.slice A0 la.length c0, .slice A1 ls.length c1, .slice A2 lo.length c2, .slice A3 of.length c3, .slice A4 on.length c4, .slice A5 ms.length c5] 26)) (.cells #[.slice B0 la.length k0, .slice B1 ls.length k1, .slice B2 lo.length k2, .slice B3 of.length k3, .slice B4 on.length k4, .slice B5 ms.length k5] 26)
  rw [World.size_alloc] at h
  exact h
 have hb := below_alloc (below_alloc (Below.refl w.heap.size w) (.cells #[.slice A0 la.length c0, .slice A1 ls.length c1, .slice A2 lo.length c2, .slice A3 of.length c3, .slice A4 on.length c4, .slice A5 ms.length c5] 26)) (.cells #[.slice B0 la.length k0, .slice B1 ls.length k1, .slice B2 lo.length k2, .slice B3 of.length k3, .slice B4 on.length k4, .slice B5 ms.length k5] 26)
 have H1 := jA h1
 have H2 := jA h2
 have F6 := jA f6
 clear h1 h2 f6
 go_enter Try.func18, Try.ntmps18
 go_upto_region 1 with fail
 obtain ⟨W0, hW0⟩ : ∃ W0, W0 = ((w.alloc (.cells #[.slice A0 la.length c0, .slice A1 ls.length c1, .slice A2 lo.length c2, .slice A3 of.length c3, .slice A4 on.length c4, .slice A5 ms.length c5] 26)).alloc (.cells #[.slice B0 la.length k0, .slice B1 ls.length k1, .slice B2 lo.length k2, .slice B3 of.length k3, .slice B4 on.length k4, .slice B5 ms.length k5] 26)) := ⟨_, rfl⟩
 obtain ⟨g2, hg2⟩ : ∃ g2, g2 = w.heap.size + 1 := ⟨_, rfl⟩
 rw [← hW0] at hs1 hs2 hb ⊢
 rw [← hg2] at hs2 ⊢
 have S1 := jA (fun (W : World) (hb : Below W0.heap.size W0 W) => hs1.below hb)
 have S2 := jA (fun (W : World) (hb : Below W0.heap.size W0 W) => hs2.below hb)
 have HB := jA hb
 have I1 := jA (fun (W : World) (hb' : Below W0.heap.size W0 W) => H1.out.below (below_then hb hb.size hb'))
 have I2 := jA (fun (W : World) (hb' : Below W0.heap.size W0 W) => H2.out.below (below_then hb hb.size hb'))
 have B_0 := jA (Below.refl W0.heap.size W0)
 have T0 := jA (fun (W : World) (hb : Below W0.heap.size W0 W) => texts_go f0 rfl (I1.out W hb).h0 (I1.out W hb).l0 (I2.out W hb).h0 (I2.out W hb).l0)
 have T1 := jA (fun (W : World) (hb : Below W0.heap.size W0 W) => texts_go f1 rfl (I1.out W hb).h1 (I1.out W hb).l1 (I2.out W hb).h1 (I2.out W hb).l1)
 have T2 := jA (fun (W : World) (hb : Below W0.heap.size W0 W) => texts_go f2 rfl (I1.out W hb).h2 (I1.out W hb).l2 (I2.out W hb).h2 (I2.out W hb).l2)
 have T3 := jA (fun (W : World) (hb : Below W0.heap.size W0 W) => numbers_go f3 rfl (I1.out W hb).h3 (I1.out W hb).l3 (I2.out W hb).h3 (I2.out W hb).l3)
 have T4 := jA (fun (W : World) (hb : Below W0.heap.size W0 W) => numbers_go f4 rfl (I1.out W hb).h4 (I1.out W hb).l4 (I2.out W hb).h4 (I2.out W hb).l4)
 simp only [] at T0 T1 T2 T3 T4
 have a0 := hs1.cell 0
 have b0 := hs2.cell 0
 simp only [Jt, Ju, Jv] at a0 b0
 clear hs1 hs2 hb hW0 hg2
 go_upto_region 3 with (first
  | (go_at_call 53; (with_reducible refine (T0.out _ B_0.out).mono ?_); rintro e w1 ⟨rfl, hb⟩; have B_1 := jA (below_then B_0.out B_0.out.size hb); have a1 := (S1.out _ B_1.out).cell 1; have b1 := (S2.out _ B_1.out).cell 1; (simp only [Jt, Ju, Jv] at a1 b1); clear hb)
  | (go_at_call 53; (with_reducible refine (T1.out _ B_1.out).mono ?_); rintro e w2 ⟨rfl, hb⟩; have B_2 := jA (below_then B_1.out B_1.out.size hb); have a2 := (S1.out _ B_2.out).cell 2; have b2 := (S2.out _ B_2.out).cell 2; (simp only [Jt, Ju, Jv] at a2 b2); clear hb)
  | (go_at_call 53; (with_reducible refine (T2.out _ B_2.out).mono ?_); rintro e w3 ⟨rfl, hb⟩; have B_3 := jA (below_then B_2.out B_2.out.size hb); have a3 := (S1.out _ B_3.out).cell 3; have b3 := (S2.out _ B_3.out).cell 3; (simp only [Jt, Ju, Jv] at a3 b3); clear hb)
  | (go_at_call 54; (with_reducible refine (T3.out _ B_3.out).mono ?_); rintro e w4 ⟨rfl, hb⟩; have B_4 := jA (below_then B_3.out B_3.out.size hb); have a4 := (S1.out _ B_4.out).cell 4; have b4 := (S2.out _ B_4.out).cell 4; (simp only [Jt, Ju, Jv] at a4 b4); clear hb)
  | (go_at_call 54; (with_reducible refine (T4.out _ B_4.out).mono ?_); rintro e w5 ⟨rfl, hb⟩; have B_5 := jA (below_then B_4.out B_4.out.size hb); have a5 := (S1.out _ B_5.out).cell 5; have b5 := (S2.out _ B_5.out).cell 5; (simp only [Jt, Ju, Jv] at a5 b5); clear hb))
 clear T0 T1 T2 T3 T4 a0 b0 a1 b1 a2 b2 a3 b3 a4 b4
 go_wp2
 go_loopw [5] (fun u5 wr => ∃ i : Nat, i ≤ ms.length ∧ u5 = .int .i64 i ∧ Aside0 (Below W0.heap.size W0 wr)) (fun u5 _ => ms.length - (intOf u5).toNat)
 case atStart => exact ⟨0, by omega, rfl, B_5⟩
 case round =>
  clear a5 b5
  obtain ⟨i, hi, rfl, HM⟩ := hrel
  have a5 := (S1.out _ HM.out).cell 5
  have b5 := (S2.out _ HM.out).cell 5
  simp only [Jt, Ju, Jv] at a5 b5
  by_cases hlt : i < ms.length
  ·have hlt' : (i : Int) < ms.length := by omega
   obtain ⟨ad, Ar, cr, e1, hx1, l1, g1⟩ := at_L3 (I1.out _ HM.out).h5 (i : Int) (by omega) (by simpa using hlt')
   obtain ⟨bd, Br, kr, e2, hx2, l2, g2'⟩ := at_L3 (I2.out _ HM.out).h5 (i : Int) (by omega) (by simpa using hlt')
   simp only [] at e1 e2 hx1 hx2 l1 l2 g1 g2'
   subst e1 e2
   simp only [Int.toNat_natCast] at hx1 hx2
   have hrl : (rd_L3 ms (i : Int)).length ≤ 64 := by
    rw [show rd_L3 ms (i : Int) = ms[i] by simp [rd_L3, hlt]]
    exact F6.out _ (List.getElem_mem hlt)
   obtain ⟨r, hr⟩ : ∃ r, r = rd_L3 ms (i : Int) := ⟨_, rfl⟩
   rw [← hr] at hx1 hx2 l1 l2 g1 g2' hrl
   obtain ⟨m, hm⟩ : ∃ m, m = r.length := ⟨_, rfl⟩
   rw [← hm] at hx1 hx2 l1 l2 g1 g2'
   have EQ := jA (fun (W : World) (hb : Below wr.heap.size wr W) => equal_go hrl hm.symm (Kd.C_below g1 hb) l1 (Kd.C_below g2' hb) l2)
   have X1 := jA (show wr.drew.cell? _ = _ from a5)
   have X2 := jA (show wr.drew.cell? _ = _ from hx1)
   have X3 := jA (show wr.drew.cell? _ = _ from b5)
   have X4 := jA (show wr.drew.cell? _ = _ from hx2)
   clear hr hm hrl g1 g2' l1 l2 hx1 hx2
   go_upto_region 6 with fail
   refine start_ (n := 12) (S := fun w' => w'.cell? ⟨w.heap.size, 5, none⟩ = some (.slice (some ad) ms.length c5) ∧ w'.cell? (ad.add i) = some (.slice Ar m cr) ∧ w'.cell? ⟨g2, 5, none⟩ = some (.slice (some bd) ms.length k5) ∧ w'.cell? (bd.add i) = some (.slice Br m kr)) (ds := []) (Jb 12 0) (by kernel_rfl) rfl (by kernel_rfl) ⟨X1.out, X2.out, X3.out, X4.out⟩ (fun hHeld => ?_)
   refine Jp 0 61 (Jb 12 1) rfl rfl ?_
   refine Jk 1 62 (Jb 12 3) rfl rfl hHeld (.inl ⟨by rfl, by rintro w' ⟨s0, s1, s2, s3⟩; go_simp; with_reducible rfl⟩) ?_
   refine Jp 2 63 (Jb 12 7) rfl rfl ?_
   refine Jp 3 64 (Jb 12 15) rfl rfl ?_
   refine Jk 4 65 (Jb 12 31) rfl rfl hHeld (.inl ⟨by rfl, by rintro w' ⟨s0, s1, s2, s3⟩; go_simp; with_reducible rfl⟩) ?_
   refine Jp 5 66 (Jb 12 63) rfl rfl ?_
   refine Jk 6 67 (Jb 12 127) rfl rfl hHeld (.inl ⟨by rfl, by rintro w' ⟨s0, s1, s2, s3⟩; go_simp; with_reducible rfl⟩) ?_
   refine Jp 7 68 (Jb 12 255) rfl rfl ?_
   refine Jp 8 69 (Jb 12 511) rfl rfl ?_
   refine Jk 9 70 (Jb 12 1023) rfl rfl hHeld (.inl ⟨by rfl, by rintro w' ⟨s0, s1, s2, s3⟩; go_simp; with_reducible rfl⟩) ?_
   refine one_ (i := 10) (N := some 71) (Jb 12 2047) rfl rfl (by kernel_rfl) (by decide) (fun K hK => ?_)
   refine goes_ Try.func39 (by kernel_rfl) rfl #[.slice Ar m cr, .slice Br m kr] (by rfl) rfl rfl (by (try simp only [List.map_toArray, List.map_cons, List.map_nil]); first | done | rfl) ?_
   refine (EQ.out _ (below_drew (Below.refl wr.heap.size wr))).mono ?_
   rintro e w1 ⟨rfl, hb1⟩
   refine ⟨_, rfl, ?_⟩
   have hb2 : Below wr.heap.size wr w1 := below_then (below_drew (Below.refl wr.heap.size wr)) (Nat.le_refl _) hb1
   have hS1 := And.intro (pw_cell_below hb2 X1.out) (And.intro (pw_cell_below hb2 X2.out) (And.intro (pw_cell_below hb2 X3.out) (pw_cell_below hb2 X4.out)))
   have HF := jA (below_then HM.out HM.out.size hb2)
   clear hb1 hb2
   refine hK.out _ _ hS1 (fun hHeld => ?_)
   clear hK K hS1
   refine norm_ (a' := ?_) ?_ ?_; rotate_left; (show Act.put _ (some 71) _ = _; simp only [Act.put, Jq, Jr, Js]; rfl)
   refine Jp 11 6 (Jb 12 4095) rfl rfl ?_
   clear hHeld
   refine done_ (by kernel_rfl) ?_
   go_wp2
   exact ⟨⟨i + 1, by omega, by go_num, HF⟩, by simp [intOf]; omega⟩
  ·have hi3 : i = ms.length := by omega
   subst hi3
   have hlt' : ¬ ((ms.length : Int) < ms.length) := by omega
   clear hlt hi
   go_wp2
   go_ret
   exact ⟨rfl, below_then HB.out HB.out.size HM.out⟩
end Go.Proofs.Ythaiodklfoegiaa.OSame
/- gatehouselaw11.GraphCompile: its parts as they are called. -/
namespace Go.Proofs.Ythaiodklfoegiaa.OLaw
open Go.RowKit YthaiodklfoegiaaW.PrintWords YthaiodklfoegiaaW.PrintLast YthaiodklfoegiaaW.PrintMore BRow GDiffer CPure VPure CSame GValid MSide MPol OBase OMark OMarkW Go.Maps
open PG
structure Dt where
 la : List ByteArray
 ls : List ByteArray
 lo : List ByteArray
 of : List Int
 on : List Int
 ms : List (List Int)
structure Has (t : Dt) (g : G) : Prop where
 la : g.la = t.la
 ls : g.ls = t.ls
 lo : g.lo = t.lo
 of : g.of = t.of
 on : g.on = t.on
 ms : g.ms = t.ms
structure FewT (t : Dt) : Prop where
 la : t.la.length ≤ 64
 ls : t.ls.length ≤ 64
 lo : t.lo.length ≤ 64
 of : t.of.length ≤ 64
 on : t.on.length ≤ 64
 ms : t.ms.length ≤ 64
 each : ∀ r ∈ t.ms, r.length ≤ 64
theorem Has.few {t : Dt} {g : G} (h : Has t g) (f : FewT t) : Few g where
 la := by rw [h.la]; exact f.la
 ls := by rw [h.ls]; exact f.ls
 lo := by rw [h.lo]; exact f.lo
 of := by rw [h.of]; exact f.of
 on := by rw [h.on]; exact f.on
 ms := by rw [h.ms]; exact f.ms
 each := fun p => by
  rw [h.ms]
  by_cases hp : p < t.ms.length
  ·rw [List.getD_eq_getElem?_getD, List.getElem?_eq_getElem hp]; exact f.each _ (List.getElem_mem hp)
  ·rw [List.getD_eq_getElem?_getD, List.getElem?_eq_none (by omega)]; simp
theorem same_go {t : Dt} {g1 g2 : G} (f : FewT t) (c1 : Has t g1) (c2 : Has t g2) {w : World} (h1 : g1.In w) (h2 : g2.In w) :
  Calls Try.prog 18 #[g1.val, g2.val] w fun e w' => e = .returned (.bool true) ∧ Below w.heap.size w w' := by
 obtain ⟨A0, c0, la, A1, c1', ls, A2, c2', lo, A3, c3, of, A4, c4, on, A5, c5, ms⟩ := g1
 obtain ⟨B0, k0, la2, B1, k1, ls2, B2, k2, lo2, B3, k3, of2, B4, k4, on2, B5, k5, ms2⟩ := g2
 obtain ⟨tla, tls, tlo, tof, ton, tms⟩ := t
 obtain ⟨rfl, rfl, rfl, rfl, rfl, rfl⟩ := c1
 obtain ⟨rfl, rfl, rfl, rfl, rfl, rfl⟩ := c2
 exact OSame.same_calls A0 c0 A1 c1' A2 c2' A3 c3 A4 c4 A5 c5 B0 k0 B1 k1 B2 k2 B3 k3 B4 k4 B5 k5 _ _ _ _ _ _ f.la f.ls f.lo f.of f.on f.ms f.each w h1 h2
open Classical in
noncomputable def dT (d : PolD) : Dt := if OBig.Big d then ⟨[], [], [], [], [], []⟩ else ⟨d.acts, d.subs.map (·.f0), d.objs, ofM d.subs.length d.objs.length (matD d), ofM d.objs.length d.subs.length (fun j i => matD d i j), masksM d.subs.length d.objs.length (matD d)⟩
theorem dT_few (d : PolD) : FewT (dT d) := by
 unfold dT
 by_cases hB : OBig.Big d
 ·rw [if_pos hB]; exact ⟨by simp, by simp, by simp, by simp, by simp, by simp, by simp⟩
 ·rw [if_neg hB]
  obtain ⟨hs, ho, ha⟩ := (OBig.big_or d).resolve_left hB
  have hf : ∀ (n m : Nat) (M : Nat → Nat → Int), n ≤ 64 → (firstsN (lines n m M)).length ≤ 64 := fun n m M hn => by
   have h2 := uniq_length (lines n m M)
   rw [lines_length] at h2
   simp only [firstsN, List.length_map]; omega
  refine ⟨by show d.acts.length ≤ 64; omega, by simpa using hs, ho, by rw [ofM_length]; exact hs, by rw [ofM_length]; exact ho, by simpa [masksM] using hf _ _ _ hs, fun r hr => ?_⟩
  obtain ⟨i, _, rfl⟩ := List.mem_map.1 (show r ∈ masksM d.subs.length d.objs.length (matD d) from hr)
  rw [List.length_map]; exact hf _ _ _ ho
theorem own_nil (w : World) (s0 s1 : Nat) : Own w s0 s1 OBig.gNil [] :=
 ⟨Kd.R_nil _ _ _ _ _, Kd.R_nil _ _ _ _ _, Kd.R_nil _ _ _ _ _, Kd.R_nil _ _ _ _ _, Kd.R_nil _ _ _ _ _, Kd.R_nil _ _ _ _ _, Rws.nil _ _, fun v hv => by simp at hv, Ap.nil _, Ap.nil _, Ap.nil _, Ap.nil _⟩
theorem comp_go (q : Pol) (d : PolD) (hq : q.d = d) (hd : d.Ok) {w : World} (hp : q.In w) :
  Calls Try.prog 16 #[.agg q.cells] w fun e w' => ∃ g hs, e = .returned g.val ∧ Own w' w.heap.size w'.heap.size g hs ∧ Has (dT d) g ∧ g.In w' ∧ Below w.heap.size w w' := by
 subst hq
 by_cases hB : OBig.Big q.d
 ·refine (OBig.compile_big q w hB).mono ?_
  rintro e w' ⟨rfl, hb⟩
  have ho := own_nil w' w.heap.size w'.heap.size
  refine ⟨_, [], rfl, ho, ?_, ho.In (fun r hr => by simp [OBig.gNil] at hr), hb⟩
  unfold dT; rw [if_pos hB]
  exact ⟨rfl, rfl, rfl, rfl, rfl, rfl⟩
 ·obtain ⟨hs, ho, ha⟩ := (OBig.big_or q.d).resolve_left hB
  refine (COwn.compile_own q w hp hd hs ho ha).mono ?_
  rintro e w' ⟨g, rfl, ⟨hs, hO⟩, hu, e0, e1, e2, e3, e4, e5, hb⟩
  refine ⟨g, hs, rfl, hO, ?_, hO.In hu, hb⟩
  unfold dT; rw [if_neg hB]
  exact ⟨e0, e1, e2, e3, e4, e5⟩
theorem ref_go (p : Pol) (hd : p.d.Ok) (hl : QRoom.Lens p.d) {w : World} (hp : p.In w) :
  Calls Try.prog 14 #[.agg p.cells] w fun e w' => ∃ g, e = .returned g.val ∧ Has (dT p.d) g ∧ g.In w' ∧ Below w.heap.size w w' := by
 by_cases hB : OBig.Big p.d
 ·refine (OBig.ref_big p w hB).mono ?_
  rintro e w' ⟨rfl, hb⟩
  refine ⟨_, rfl, ?_, (own_nil w' 0 0).In (fun r hr => by simp [OBig.gNil] at hr), hb⟩
  unfold dT; rw [if_pos hB]
  exact ⟨rfl, rfl, rfl, rfl, rfl, rfl⟩
 ·obtain ⟨hs, ho, ha⟩ := (OBig.big_or p.d).resolve_left hB
  refine (ORef.ref_calls p w hp ⟨hd, hs, ho, ha, by have := hl.exc; omega, fun r hr => by have := hl.each r hr; omega⟩).mono ?_
  rintro e w' ⟨g, rfl, hi, ⟨e0, e1, e2, e3, e4, e5⟩, hb⟩
  refine ⟨g, rfl, ?_, hi, hb⟩
  unfold dT; rw [if_neg hB]
  exact ⟨e0, e1, e2, e3, e4, e5⟩
theorem few_marked {n : Nat} {g g' : G} (h : marked n g g') (f : Few g) : Few g' := by
 obtain ⟨_, _, _, _, _, _, _, _, _, _, _, _, h0, h1, h2, h3, h4, h5, h6, _⟩ := h
 exact ⟨by rw [h0]; exact f.la, by rw [h1]; exact f.ls, by rw [h2]; exact f.lo, by rw [h3]; exact f.of, by rw [h4]; exact f.on, by rw [h5]; exact f.ms, fun p => by rw [h6]; exact f.each p⟩
def Gc (g : G) : Array Value := #[.slice g.A0 g.la.length g.c0, .slice g.A1 g.ls.length g.c1, .slice g.A2 g.lo.length g.c2, .slice g.A3 g.of.length g.c3, .slice g.A4 g.on.length g.c4, .slice g.A5 g.ms.length g.c5]
theorem gc_marked {n : Nat} {g g' : G} (h : marked n g g') : Gc g' = Gc g := by
 obtain ⟨a0, a1, a2, a3, a4, a5, a6, a7, a8, a9, a10, a11, h0, h1, h2, h3, h4, h5, _⟩ := h
 unfold Gc
 rw [a0, a1, a2, a3, a4, a5, a6, a7, a8, a9, a10, a11, h0, h1, h2, h3, h4, h5]
theorem i26c (g : G) : (Try.prog.info? 26).map (·.size) = some (Gc g).size := by show _ = some 6; exact COwn.i26
structure An (W : World) (v s0 s1 : Nat) (g : G) (hs : List Value) : Prop where
 own : Own W s0 s1 g hs
 var : Stays W v (Gc g) 26
 ge : s1 ≤ v
 le : s0 ≤ s1
theorem An.below {W W1 : World} {v s0 s1 : Nat} {g : G} {hs : List Value} (h : An W v s0 s1 g hs) (hb : Below W.heap.size W W1) : An W1 v s0 s1 g hs := ⟨h.own.below hb, h.var.below hb, h.ge, h.le⟩
theorem An.lt {W : World} {v s0 s1 : Nat} {g : G} {hs : List Value} (h : An W v s0 s1 g hs) : v < W.heap.size := (Array.getElem?_eq_some_iff.1 h.var).1
theorem An.same {W W1 : World} {v s0 s1 a b : Nat} {g : G} {hs : List Value} (h : An W v s0 s1 g hs) (hm : Same (Blks a b) W W1) (hd : b ≤ s0 ∨ v < a) : An W1 v s0 s1 g hs := by
 have h1 := h.ge
 have h2 := h.le
 exact ⟨h.own.stay (fun k k0 k1 hk => hm.block k hk (fun e => by have e : a ≤ k ∧ k < b := e; omega)), hm.stays h.var (fun e => by have e : a ≤ v ∧ v < b := e; omega), h.ge, h.le⟩
theorem An.turn {W W1 : World} {v s0 s1 : Nat} {g g' : G} {hs hs' : List Value} (h : An W v s0 s1 g hs) (hm : Same (Blks s0 s1) W W1) (ho : Own W1 s0 s1 g' hs') (hc : Gc g' = Gc g) : An W1 v s0 s1 g' hs' :=
 ⟨ho, by rw [hc]; exact hm.stays h.var (fun e => by have e : s0 ≤ v ∧ v < s1 := e; have := h.ge; omega), h.ge, h.le⟩
end Go.Proofs.Ythaiodklfoegiaa.OLaw
/- gatehouselaw11.GraphCompile, walked. -/
namespace Go.Proofs.Ythaiodklfoegiaa.OLaw
open Go.RowKit YthaiodklfoegiaaW.PrintWords YthaiodklfoegiaaW.PrintLast YthaiodklfoegiaaW.PrintMore BRow GDiffer CSame GValid MSide MPol OBase OMark OMarkW QUnt Go.Maps
open PG
theorem i39 (p : Pol) : (Try.prog.info? 39).map (·.size) = some p.cells.size := by show _ = some 11; kernel_rfl
theorem i43 (q : Pol) (r : RA) : (Try.prog.info? 43).map (·.size) = some (roomV q r).size := by show _ = some 23; kernel_rfl
theorem room_cells {q : Pol} {r : RA} {g4 : Nat} {W : World} (h : Stays W g4 (roomV q r) 43) : ∀ (j : Nat) (v : Value), q.cells.toList[j]? = some v → W.cell? ((⟨g4, 0, none⟩ : Addr).add j) = some v := by
 intro j v hj
 have hlt : j < 11 := by have := (List.getElem?_eq_some_iff.1 hj).1; simpa [Pol.cells] using this
 have hc := h.cell j
 rw [show (⟨g4, 0, none⟩ : Addr).add j = ⟨g4, j, none⟩ by (unfold Addr.add; split <;> simp_all), hc, ← hj]
 have hd : j = 0 ∨ j = 1 ∨ j = 2 ∨ j = 3 ∨ j = 4 ∨ j = 5 ∨ j = 6 ∨ j = 7 ∨ j = 8 ∨ j = 9 ∨ j = 10 := by omega
 rcases hd with rfl | rfl | rfl | rfl | rfl | rfl | rfl | rfl | rfl | rfl | rfl <;> rfl
theorem wpList_load_arr {P : Program} {ops : Array Oper} {rest : List Oper} {o : Oper} {a : Act} {w : World} {Q : Exit → Act → World → Prop} (hgd : o.guard = none) (ty : TypeId) (x : Operand) (ho : o.op = .load ty x) (a0 : Addr) (hx : a.eval x = .pointer (some a0)) (cs : Array Value) (hc : ∀ (j : Nat) (v : Value), cs.toList[j]? = some v → w.cell? (a0.add j) = some v)
  (d : TypeDesc) (hu : P.underlying ty = some d) (hd : aggDesc d = true) (hi : (P.info? ty).map (·.size) = some cs.size) (h : wpList P ops Q rest (a.put o.dst (.agg cs)) w) : wpList P ops Q (o :: rest) a w :=
 wpList_load_at hgd ty x ho a0 hx cs.toList hc d hu hd (by simpa using hi) (by simpa using h)
structure Old (p q : Pol) (r : RA) (gw : G) (g1 g3 g4 g5 : Nat) (W : World) : Prop where
 ip : p.In W
 iq : q.In W
 ir : r.In p.d W
 iw : gw.In W
 b1 : Stays W g1 p.cells 39
 b3 : Stays W g3 (Gc gw) 26
 b4 : Stays W g4 (roomV q r) 43
 b5 : Stays W g5 q.cells 39
theorem Old.below {p q : Pol} {r : RA} {gw : G} {g1 g3 g4 g5 : Nat} {W W1 : World} (h : Old p q r gw g1 g3 g4 g5 W) (hb : Below W.heap.size W W1) : Old p q r gw g1 g3 g4 g5 W1 :=
 ⟨h.ip.below hb, h.iq.below hb, h.ir.below hb, h.iw.below hb, h.b1.below hb, h.b3.below hb, h.b4.below hb, h.b5.below hb⟩
theorem law_calls (p : Pol) (w : World) (hp : p.In w) (hd : p.d.Ok) (hl : QRoom.Lens p.d) (hs : QUnt.Short p.d) :
  Calls Try.prog 6 #[.agg p.cells] w fun e w' => e = .returned (.bool true) ∧ Below w.heap.size w w' := by
 have HP := jA (fun (W : World) (hb : Below w.heap.size w W) => hp.below hb)
 have HD := jA hd
 have HL := jA hl
 have HS := jA hs
 have HF := jA (dT_few p.d)
 have hst : Stays (w.alloc (.cells p.cells 39)) w.heap.size p.cells 39 := heap_alloc_new w _
 have hb0 := below_alloc (Below.refl w.heap.size w) (.cells p.cells 39)
 clear hp hd hl hs
 go_enter Try.func6, Try.ntmps6
 go_upto_region 1 with fail
 generalize w.alloc (.cells p.cells 39) = W0 at hst hb0 ⊢
 have HST := jA hst
 have HB0 := jA hb0
 clear hst hb0
 go_upto_region 2 with (first
  | ((with_reducible refine gate_dst (N := 13) rfl ?_); refine wpList_load_blk rfl 39 (.tmp 1) rfl w.heap.size ?hx (p.cells) 39 (HST.out) _ Try.underlying39 rfl (i39 p) ?_; (case hx => rfl))
  | (go_at_call 14; (with_reducible refine (ref_go p HD.out HL.out (HP.out _ HB0.out)).mono ?_); rintro e w1 ⟨gw, rfl, hwt, hwi, hb⟩; have HWT := jA hwt; have HWI := jA hwi; have HB1' := jA (below_then HB0.out HB0.out.size hb); have HST1' := jA (HST.out.below hb); clear hwt hwi hb)
  | ((with_reducible refine gate_dst (N := 3) rfl ?_); refine wpList_alloc_store rfl rfl 26 3 (.tmp 14) rfl rfl rfl #[.slice none 0 0, .slice none 0 0, .slice none 0 0, .slice none 0 0, .slice none 0 0, .slice none 0 0] (Gc gw) _ (COwn.z26 _) rfl (i26c gw) rfl (by simp [Gc, Value.oneCell']) rfl rfl ?_))
 have hbn := below_alloc (Below.refl _ w1) (.cells (Gc gw) 26)
 have hvn : Stays (w1.alloc (.cells (Gc gw) 26)) w1.heap.size (Gc gw) 26 := heap_alloc_new w1 _
 have hzn : (w1.alloc (.cells (Gc gw) 26)).heap.size = w1.heap.size + 1 := by rw [World.size_alloc]
 obtain ⟨W1, hWn⟩ : ∃ W, W = w1.alloc (.cells (Gc gw) 26) := ⟨_, rfl⟩
 obtain ⟨g3, hgn⟩ : ∃ g, g = w1.heap.size := ⟨_, rfl⟩
 rw [← hWn] at hbn hvn hzn ⊢
 rw [← hgn] at hvn hzn ⊢
 have HV3 := jA hvn
 have HB1 := jA (below_then HB1'.out HB1'.out.size hbn)
 have Zt := jA (HST1'.out.below hbn)
 have Zw := jA (HWI.out.below hbn)
 clear hbn hvn hzn hWn hgn HWI HB1' HST1' HST HB0
 go_upto_region 3 with (first
  | ((with_reducible refine gate_dst (N := 15) rfl ?_); refine wpList_load_blk rfl 39 (.tmp 1) rfl w.heap.size ?hx (p.cells) 39 (Zt.out) _ Try.underlying39 rfl (i39 p) ?_; (case hx => rfl))
  | (go_at_call 15; (with_reducible refine (QReads.roomy_reads p _ (HP.out _ HB1.out) HL.out).mono ?_); rintro e w2 ⟨q, r, rfl, hqd, hq, hr, hb⟩; have HQD := jA hqd; have HQ2 := jA hq; have HR2 := jA hr; have HB2' := jA (below_then HB1.out HB1.out.size hb); have HST2' := jA (Zt.out.below hb); have HWI2' := jA (Zw.out.below hb); have HV3' := jA (HV3.out.below hb); clear hqd hq hr hb)
  | ((with_reducible refine gate_dst (N := 4) rfl ?_); refine wpList_alloc_store rfl rfl 43 4 (.tmp 16) rfl rfl rfl #[.slice none 0 0, .slice none 0 0, .slice none 0 0, .slice none 0 0, .slice none 0 0, .slice none 0 0, .slice none 0 0, .slice none 0 0, .slice none 0 0, .slice none 0 0, .slice none 0 0, .slice none 0 0, .slice none 0 0, .slice none 0 0, .slice none 0 0, .slice none 0 0, .slice none 0 0, .slice none 0 0, .slice none 0 0, .slice none 0 0, .slice none 0 0, .slice none 0 0, .slice none 0 0] (roomV q r) _ (QRoom.z43 _) rfl (i43 q r) rfl (by simp [roomV, Value.oneCell']) rfl rfl ?_))
 have hbn := below_alloc (Below.refl _ w2) (.cells (roomV q r) 43)
 have hvn : Stays (w2.alloc (.cells (roomV q r) 43)) w2.heap.size (roomV q r) 43 := heap_alloc_new w2 _
 have hzn : (w2.alloc (.cells (roomV q r) 43)).heap.size = w2.heap.size + 1 := by rw [World.size_alloc]
 obtain ⟨W2, hWn⟩ : ∃ W, W = w2.alloc (.cells (roomV q r) 43) := ⟨_, rfl⟩
 obtain ⟨g4, hgn⟩ : ∃ g, g = w2.heap.size := ⟨_, rfl⟩
 rw [← hWn] at hbn hvn hzn ⊢
 rw [← hgn] at hvn hzn ⊢
 have HV4 := jA hvn
 have HB2 := jA (below_then HB2'.out HB2'.out.size hbn)
 have HOL := jA (And.intro (HQ2.out.below hbn) (And.intro (HR2.out.below hbn) (And.intro (HWI2'.out.below hbn) (And.intro (HST2'.out.below hbn) (HV3'.out.below hbn)))))
 clear hbn hvn hzn hWn hgn HQ2 HR2 HB2' HST2' HWI2' HV3' HV3 Zt Zw HB1
 go_upto_region 4 with (first
  | ((with_reducible refine gate_dst (N := 18) rfl ?_); refine wpList_load_arr rfl 39 (.tmp 17) rfl ⟨g4, 0, none⟩ ?hx q.cells (room_cells HV4.out) _ Try.underlying39 rfl (i39 q) ?_; (case hx => rfl))
  | ((with_reducible refine gate_dst (N := 5) rfl ?_); refine wpList_alloc_store rfl rfl 39 5 (.tmp 18) rfl rfl rfl #[.slice none 0 0, .slice none 0 0, .slice none 0 0, .slice none 0 0, .slice none 0 0, .slice none 0 0, .slice none 0 0, .slice none 0 0, .slice none 0 0, .slice none 0 0, .slice none 0 0] (q.cells) _ (QRoom.z39 _) rfl (i39 q) rfl (by simp [Pol.cells, Value.oneCell']) rfl rfl ?_))
 have hbn := below_alloc (Below.refl _ W2) (.cells (q.cells) 39)
 have hvn : Stays (W2.alloc (.cells (q.cells) 39)) W2.heap.size (q.cells) 39 := heap_alloc_new W2 _
 have hzn : (W2.alloc (.cells (q.cells) 39)).heap.size = W2.heap.size + 1 := by rw [World.size_alloc]
 obtain ⟨Wg, hWn⟩ : ∃ W, W = W2.alloc (.cells (q.cells) 39) := ⟨_, rfl⟩
 obtain ⟨g5, hgn⟩ : ∃ g, g = W2.heap.size := ⟨_, rfl⟩
 rw [← hWn] at hbn hvn hzn ⊢
 rw [← hgn] at hvn hzn ⊢
 have HB := jA (below_then HB2.out HB2.out.size hbn)
 have HG := jA (Old.mk (p := p) (q := q) (r := r) (gw := gw) (g1 := w.heap.size) (g3 := g3) (g4 := g4) (g5 := g5) (W := Wg) (HP.out _ HB.out) (HOL.out.1.below hbn) (HOL.out.2.1.below hbn) (HOL.out.2.2.1.below hbn) (HOL.out.2.2.2.1.below hbn) (HOL.out.2.2.2.2.below hbn) (HV4.out.below hbn) hvn)
 clear hbn hvn hzn hWn hgn HB2 HOL HV4
 have HO := jA (fun (W : World) (hb : Below Wg.heap.size Wg W) => HG.out.below hb)
 have HBg := jA (Below.refl Wg.heap.size Wg)
 have CG := jA (fun (W : World) (hb : Below Wg.heap.size Wg W) => comp_go q p.d HQD.out HD.out (HO.out W hb).iq)
 have UG := jA (fun (W : World) (hb : Below Wg.heap.size Wg W) => untouched_calls p q r W (HO.out W hb).ip HQD.out (HO.out W hb).ir HS.out)
 go_upto_region 5 with (first
  | ((with_reducible refine gate_dst (N := 19) rfl ?_); refine wpList_load_blk rfl 39 (.tmp 5) rfl g5 ?hx (q.cells) 39 ((HO.out _ HBg.out).b5) _ Try.underlying39 rfl (i39 q) ?_; (case hx => rfl))
  | (go_at_call 16; (with_reducible refine (CG.out _ HBg.out).mono ?_); rintro e w4 ⟨ga, hsga, rfl, ho, hh, hi, hb⟩; have HOw := jA ho; have HHsga := jA hh; have HBw := jA hb; have HGIga := jA hi.u16; clear ho hh hi hb)
  | ((with_reducible refine gate_dst (N := 6) rfl ?_); refine wpList_alloc_store rfl rfl 26 6 (.tmp 20) rfl rfl rfl #[.slice none 0 0, .slice none 0 0, .slice none 0 0, .slice none 0 0, .slice none 0 0, .slice none 0 0] (Gc ga) _ (COwn.z26 _) rfl (i26c ga) rfl (by simp [Gc, Value.oneCell']) rfl rfl ?_))
 have hbn := below_alloc (Below.refl _ w4) (.cells (Gc ga) 26)
 have hvn : Stays (w4.alloc (.cells (Gc ga) 26)) w4.heap.size (Gc ga) 26 := heap_alloc_new w4 _
 have hzn : (w4.alloc (.cells (Gc ga) 26)).heap.size = w4.heap.size + 1 := by rw [World.size_alloc]
 obtain ⟨W4, hWn⟩ : ∃ W, W = w4.alloc (.cells (Gc ga) 26) := ⟨_, rfl⟩
 obtain ⟨g6, hgn⟩ : ∃ g, g = w4.heap.size := ⟨_, rfl⟩
 rw [← hWn] at hbn hvn hzn ⊢
 rw [← hgn] at hvn hzn ⊢
 have hall := below_then HBw.out HBw.out.size hbn
 have HB4 := jA (below_then HBg.out HBg.out.size hall)
 have HAga := jA (An.mk (v := g6) (HOw.out.below hbn) hvn (by rw [hgn]; exact Nat.le_refl _) HBw.out.size)
 have HZga := jA (show w4.heap.size = g6 ∧ W4.heap.size = g6 + 1 from ⟨hgn.symm, hzn⟩)
 clear hall hbn hvn hWn hgn hzn HOw HBw
 go_upto_region 7 with (first
  | ((with_reducible refine gate_dst (N := 21) rfl ?_); refine wpList_load_blk rfl 43 (.tmp 4) rfl g4 ?hx (roomV q r) 43 ((HO.out _ HB4.out).b4) _ Try.underlying43 rfl (i43 q r) ?_; (case hx => rfl))
  | ((with_reducible refine gate_dst (N := 22) rfl ?_); refine wpList_load_blk rfl 39 (.tmp 1) rfl w.heap.size ?hx (p.cells) 39 ((HO.out _ HB4.out).b1) _ Try.underlying39 rfl (i39 p) ?_; (case hx => rfl))
  | (go_at_call 17; (with_reducible refine (UG.out _ HB4.out).mono ?_); rintro e W5 ⟨rfl, hb⟩; have HB5 := jA (below_then HB4.out HB4.out.size hb); have HAga := jA (HAga.out.below hb); have ZC := jA hb.size; clear hb))
 go_upto_region 8 with (first
  | ((with_reducible refine gate_dst (N := 25) rfl ?_); refine wpList_load_blk rfl 39 (.tmp 5) rfl g5 ?hx (q.cells) 39 ((HO.out _ HB5.out).b5) _ Try.underlying39 rfl (i39 q) ?_; (case hx => rfl))
  | (go_at_call 16; (with_reducible refine (CG.out _ HB5.out).mono ?_); rintro e w6 ⟨gb, hsgb, rfl, ho, hh, hi, hb⟩; have HOw := jA ho; have HHsgb := jA hh; have HBw := jA hb; have HGIgb := jA hi.u16; clear ho hh hi hb)
  | ((with_reducible refine gate_dst (N := 7) rfl ?_); refine wpList_alloc_store rfl rfl 26 7 (.tmp 26) rfl rfl rfl #[.slice none 0 0, .slice none 0 0, .slice none 0 0, .slice none 0 0, .slice none 0 0, .slice none 0 0] (Gc gb) _ (COwn.z26 _) rfl (i26c gb) rfl (by simp [Gc, Value.oneCell']) rfl rfl ?_))
 have hbn := below_alloc (Below.refl _ w6) (.cells (Gc gb) 26)
 have hvn : Stays (w6.alloc (.cells (Gc gb) 26)) w6.heap.size (Gc gb) 26 := heap_alloc_new w6 _
 have hzn : (w6.alloc (.cells (Gc gb) 26)).heap.size = w6.heap.size + 1 := by rw [World.size_alloc]
 obtain ⟨W6, hWn⟩ : ∃ W, W = w6.alloc (.cells (Gc gb) 26) := ⟨_, rfl⟩
 obtain ⟨g7, hgn⟩ : ∃ g, g = w6.heap.size := ⟨_, rfl⟩
 rw [← hWn] at hbn hvn hzn ⊢
 rw [← hgn] at hvn hzn ⊢
 have hall := below_then HBw.out HBw.out.size hbn
 have HB6 := jA (below_then HB5.out HB5.out.size hall)
 have HAgb := jA (An.mk (v := g7) (HOw.out.below hbn) hvn (by rw [hgn]; exact Nat.le_refl _) HBw.out.size)
 have HZgb := jA (show w6.heap.size = g7 ∧ W6.heap.size = g7 + 1 from ⟨hgn.symm, hzn⟩)
 have HAga := jA (HAga.out.below hall)
 clear hall hbn hvn hWn hgn hzn HOw HBw
 go_upto_region 9 with (first
  | ((with_reducible refine gate_dst (N := 27) rfl ?_); refine wpList_load_blk rfl 39 (.tmp 5) rfl g5 ?hx (q.cells) 39 ((HO.out _ HB6.out).b5) _ Try.underlying39 rfl (i39 q) ?_; (case hx => rfl))
  | (go_at_call 16; (with_reducible refine (CG.out _ HB6.out).mono ?_); rintro e w7 ⟨gc, hsgc, rfl, ho, hh, hi, hb⟩; have HOw := jA ho; have HHsgc := jA hh; have HBw := jA hb; have HGIgc := jA hi.u16; clear ho hh hi hb)
  | ((with_reducible refine gate_dst (N := 8) rfl ?_); refine wpList_alloc_store rfl rfl 26 8 (.tmp 28) rfl rfl rfl #[.slice none 0 0, .slice none 0 0, .slice none 0 0, .slice none 0 0, .slice none 0 0, .slice none 0 0] (Gc gc) _ (COwn.z26 _) rfl (i26c gc) rfl (by simp [Gc, Value.oneCell']) rfl rfl ?_))
 have hbn := below_alloc (Below.refl _ w7) (.cells (Gc gc) 26)
 have hvn : Stays (w7.alloc (.cells (Gc gc) 26)) w7.heap.size (Gc gc) 26 := heap_alloc_new w7 _
 have hzn : (w7.alloc (.cells (Gc gc) 26)).heap.size = w7.heap.size + 1 := by rw [World.size_alloc]
 obtain ⟨W7, hWn⟩ : ∃ W, W = w7.alloc (.cells (Gc gc) 26) := ⟨_, rfl⟩
 obtain ⟨g8, hgn⟩ : ∃ g, g = w7.heap.size := ⟨_, rfl⟩
 rw [← hWn] at hbn hvn hzn ⊢
 rw [← hgn] at hvn hzn ⊢
 have hall := below_then HBw.out HBw.out.size hbn
 have HB7 := jA (below_then HB6.out HB6.out.size hall)
 have HAgc := jA (An.mk (v := g8) (HOw.out.below hbn) hvn (by rw [hgn]; exact Nat.le_refl _) HBw.out.size)
 have HZgc := jA (show w7.heap.size = g8 ∧ W7.heap.size = g8 + 1 from ⟨hgn.symm, hzn⟩)
 have HAga := jA (HAga.out.below hall)
 have HAgb := jA (HAgb.out.below hall)
 clear hall hbn hvn hWn hgn hzn HOw HBw
 have SGa := jA (fun (W : World) (hb : Below W7.heap.size W7 W) => show Calls Try.prog 18 #[.agg (Gc ga), .agg (Gc gw)] W (fun e w' => e = .returned (.bool true) ∧ Below W.heap.size W w') from same_go HF.out HHsga.out HWT.out ((HAga.out.below hb).own.In (fun r hr x hx => (HGIga.out r hr x hx))) (HO.out W (below_then HB7.out HB7.out.size hb)).iw)
 have SGb := jA (fun (W : World) (hb : Below W7.heap.size W7 W) => show Calls Try.prog 18 #[.agg (Gc gb), .agg (Gc gw)] W (fun e w' => e = .returned (.bool true) ∧ Below W.heap.size W w') from same_go HF.out HHsgb.out HWT.out ((HAgb.out.below hb).own.In (fun r hr x hx => (HGIgb.out r hr x hx))) (HO.out W (below_then HB7.out HB7.out.size hb)).iw)
 have SGc := jA (fun (W : World) (hb : Below W7.heap.size W7 W) => show Calls Try.prog 18 #[.agg (Gc gc), .agg (Gc gw)] W (fun e w' => e = .returned (.bool true) ∧ Below W.heap.size W w') from same_go HF.out HHsgc.out HWT.out ((HAgc.out.below hb).own.In (fun r hr x hx => (HGIgc.out r hr x hx))) (HO.out W (below_then HB7.out HB7.out.size hb)).iw)
 have HX := jA (fun (W : World) (hb : Below W7.heap.size W7 W) => And.intro (HAga.out.var.below hb) (And.intro (HAgb.out.var.below hb) (And.intro (HAgc.out.var.below hb) (HO.out W (below_then HB7.out HB7.out.size hb)).b3)))
 have HBx := jA (Below.refl W7.heap.size W7)
 go_upto_region 11 with (first
  | ((with_reducible refine gate_dst (N := 29) rfl ?_); refine wpList_load_blk rfl 26 (.tmp 6) rfl g6 ?hx (Gc ga) 26 ((HX.out _ HBx.out).1) _ Try.underlying26 rfl (i26c ga) ?_; (case hx => rfl))
  | ((with_reducible refine gate_dst (N := 30) rfl ?_); refine wpList_load_blk rfl 26 (.tmp 3) rfl g3 ?hx (Gc gw) 26 ((HX.out _ HBx.out).2.2.2) _ Try.underlying26 rfl (i26c gw) ?_; (case hx => rfl))
  | (go_at_call 18; (with_reducible refine (SGa.out _ HBx.out).mono ?_); rintro e w8 ⟨rfl, hb⟩; have HBy := jA (below_then HBx.out HBx.out.size hb); clear hb)
  | ((with_reducible refine gate_dst (N := 34) rfl ?_); refine gate_guard (by rfl) ?_; dsimp only; refine wpList_load_blk rfl 26 (.tmp 7) rfl g7 ?hx (Gc gb) 26 ((HX.out _ HBy.out).2.1) _ Try.underlying26 rfl (i26c gb) ?_; (case hx => rfl))
  | ((with_reducible refine gate_dst (N := 35) rfl ?_); refine gate_guard (by rfl) ?_; dsimp only; refine wpList_load_blk rfl 26 (.tmp 3) rfl g3 ?hx (Gc gw) 26 ((HX.out _ HBy.out).2.2.2) _ Try.underlying26 rfl (i26c gw) ?_; (case hx => rfl))
  | (go_at_call 18; (with_reducible refine (SGb.out _ HBy.out).mono ?_); rintro e w9 ⟨rfl, hb⟩; have HBz := jA (below_then HBy.out HBy.out.size hb); clear hb)
  | ((with_reducible refine gate_dst (N := 40) rfl ?_); refine gate_guard (by rfl) ?_; dsimp only; refine wpList_load_blk rfl 26 (.tmp 8) rfl g8 ?hx (Gc gc) 26 ((HX.out _ HBz.out).2.2.1) _ Try.underlying26 rfl (i26c gc) ?_; (case hx => rfl))
  | ((with_reducible refine gate_dst (N := 41) rfl ?_); refine gate_guard (by rfl) ?_; dsimp only; refine wpList_load_blk rfl 26 (.tmp 3) rfl g3 ?hx (Gc gw) 26 ((HX.out _ HBz.out).2.2.2) _ Try.underlying26 rfl (i26c gw) ?_; (case hx => rfl))
  | (go_at_call 18; (with_reducible refine (SGc.out _ HBz.out).mono ?_); rintro e W8 ⟨rfl, hb⟩; have HBu := jA (below_then HBz.out HBz.out.size hb); clear hb))
 have HB8 := jA (below_then HB7.out HB7.out.size HBu.out)
 have HAa := jA (HAga.out.below HBu.out)
 have HAb := jA (HAgb.out.below HBu.out)
 have HAc := jA (HAgc.out.below HBu.out)
 clear SGa SGb SGc HX HBx HBy HBz HBu HAga HAgb HAgc
 have HLE := jA (show Wg.heap.size ≤ W8.heap.size ∧ g6 < W5.heap.size ∧ g7 < W6.heap.size from ⟨HB8.out.size, by have h1 := HZga.out.2; have h2 := ZC.out; omega, by have h1 := HZgb.out.2; omega⟩)
 have M1 := jA (show Calls Try.prog 19 #[.agg (Gc ga), .int .i64 1] W8 (fun e w' => (∃ v, e = .returned v) ∧ ∃ g', marked 1 ga g' ∧ Own w' Wg.heap.size w4.heap.size g' hsga ∧ Same (Blks Wg.heap.size w4.heap.size) W8 w') from mark_calls ga hsga _ _ 1 (by decide) W8 HAa.out.own (by have h1 := HAa.out.lt; have h2 := HAa.out.ge; omega) (HHsga.out.few HF.out))
 go_upto_region 12 with (first
  | ((with_reducible refine gate_dst (N := 45) rfl ?_); refine wpList_load_blk rfl 26 (.tmp 6) rfl g6 ?hx (Gc ga) 26 (HAa.out.var) _ Try.underlying26 rfl (i26c ga) ?_; (case hx => rfl))
  | (go_at_call 19; (with_reducible refine M1.out.mono ?_); rintro e W9 ⟨⟨v, rfl⟩, ga', hmk, hown, hsm⟩; have HM1 := jA hmk; have HS9 := jA hsm; have HAa' := jA (HAa.out.turn hsm hown (gc_marked hmk)); clear hmk hown hsm))
 have HB9 := jA (HS9.out.below HB8.out (fun k hk => hk.1))
 have Zm := jA (HAb.out.same HS9.out (.inl (by have h1 := HZga.out.1; have h2 := HLE.out.2.1; omega)))
 have Zh := jA (HAc.out.same HS9.out (.inl (by have h1 := HZga.out.1; have h2 := HLE.out.2.1; have h3 := HLE.out.2.2; have h4 := HAb.out.ge; have h5 := HAb.out.le; omega)))
 clear M1 HAa HAb HAc HB8 HS9
 have M2 := jA (show Calls Try.prog 19 #[.agg (Gc gc), .int .i64 2] W9 (fun e w' => (∃ v, e = .returned v) ∧ ∃ g', marked 2 gc g' ∧ Own w' W6.heap.size w7.heap.size g' hsgc ∧ Same (Blks W6.heap.size w7.heap.size) W9 w') from mark_calls gc hsgc _ _ 2 (by decide) W9 Zh.out.own (by have h1 := Zh.out.lt; have h2 := Zh.out.ge; omega) (HHsgc.out.few HF.out))
 go_upto_region 13 with (first
  | ((with_reducible refine gate_dst (N := 47) rfl ?_); refine wpList_load_blk rfl 26 (.tmp 8) rfl g8 ?hx (Gc gc) 26 (Zh.out.var) _ Try.underlying26 rfl (i26c gc) ?_; (case hx => rfl))
  | (go_at_call 19; (with_reducible refine M2.out.mono ?_); rintro e W10 ⟨⟨v, rfl⟩, gc', hmk, hown, hsm⟩; have HM2 := jA hmk; have Zn := jA hsm; have HAc' := jA (Zh.out.turn hsm hown (gc_marked hmk)); clear hmk hown hsm))
 have Zu := jA (Zn.out.below HB9.out (fun k hk => by have h1 := HLE.out; have h2 := HB6.out.size; have h3 : W6.heap.size ≤ k := hk.1; omega))
 have Zi := jA (HAa'.out.same Zn.out (.inr (by have h1 := HLE.out.2.1; have h2 := Zm.out.le; have h3 := Zm.out.ge; have h4 := HLE.out.2.2; omega)))
 have Zp := jA (Zm.out.same Zn.out (.inr HLE.out.2.2))
 clear M2 HAa' Zm Zh HB9 Zn
 have HFa := jA (few_marked HM1.out (HHsga.out.few HF.out))
 have HFc := jA (few_marked HM2.out (HHsgc.out.few HF.out))
 go_upto_region 13 with fail
 have Za := jA (Zi.out.below (below_drew (Below.refl W10.heap.size W10)))
 have Zd := jA (Zp.out.below (below_drew (Below.refl W10.heap.size W10)))
 have Zj := jA (HAc'.out.below (below_drew (Below.refl W10.heap.size W10)))
 have Zv := jA (below_then Zu.out Zu.out.size (below_drew (Below.refl W10.heap.size W10)))
 refine start_ (n := 6) (S := fun w' => Stays w' g6 (Gc ga') 26 ∧ Stays w' g8 (Gc gc') 26) (ds := []) (Jb 6 0) (by kernel_rfl) rfl (by kernel_rfl) ⟨Zi.out.var, HAc'.out.var⟩ (fun hHeld => ?_)
 obtain ⟨WD, hWD⟩ : ∃ WD, WD = W10.drew := ⟨_, rfl⟩
 rw [← hWD] at hHeld Za Zd Zj Zv ⊢
 clear hWD Zi Zp HAc' Zu
 refine take_ (i := 0) (N := some 49) (v := .agg (Gc ga')) (a' := ?_) (Jb 6 1) rfl rfl (by kernel_rfl) (fun _ _ _ h => h) (yieldsIf_load_mid (by rfl) 26 (.tmp 6) rfl g6 0 rfl ((Gc ga')).toList _ (fun w' hs => Stays.range (hs.1) _ rfl) Try.underlying26 rfl (by first | exact i26c ga' | (simp; exact i26c ga'))) hHeld ?_ ?_
 rotate_left
 ·simp only [Act.put, Jq, Jr, Js]
  rfl
 refine take_ (i := 2) (N := some 51) (v := .agg (Gc gc')) (a' := ?_) (Jb 6 5) rfl rfl (by kernel_rfl) (fun _ _ _ h => h) (yieldsIf_load_mid (by rfl) 26 (.tmp 8) rfl g8 0 rfl ((Gc gc')).toList _ (fun w' hs => Stays.range (hs.2) _ rfl) Try.underlying26 rfl (by first | exact i26c gc' | (simp; exact i26c gc'))) hHeld ?_ ?_
 rotate_left
 ·simp only [Act.put, Jq, Jr, Js]
  rfl
 refine one_ (i := 1) (N := some 50) (Jb 6 7) rfl rfl (by kernel_rfl) (by decide) (fun K hK => ?_)
 have hgr := (show Calls Try.prog 20 #[.agg (Gc ga')] WD (fun e w' => (∃ N : Nat, e = .returned (.int .i64 N) ∧ 0 < N ∧ N ≤ 100000) ∧ Own w' Wg.heap.size w4.heap.size ga' hsga ∧ Same (Blks Wg.heap.size w4.heap.size) WD w') from OGrow.grow_calls ga' hsga _ _ WD Za.out.own (by have h1 := Za.out.lt; have h2 := Za.out.ge; have h3 := Za.out.le; omega) (by have h1 := Za.out.lt; have h2 := Za.out.ge; omega) HFa.out)
 refine goes_ Try.func20 (by kernel_rfl) rfl #[.agg (Gc ga')] (by rfl) rfl rfl (by (try simp only [List.map_toArray, List.map_cons, List.map_nil]); first | done | rfl) ?_
 refine (hgr).mono ?_
 rintro e w11 ⟨⟨N1, rfl, hN1, hM1⟩, hown, hsm⟩
 refine ⟨_, rfl, ?_⟩
 have Zk := jA (Za.out.turn hsm hown rfl)
 have Zf := jA (Zd.out.same hsm (.inl (by have h1 := HZga.out.1; have h2 := HLE.out.2.1; omega)))
 have Zb := jA (Zj.out.same hsm (.inl (by have h1 := HZga.out.1; have h2 := HLE.out.2.1; have h3 := HLE.out.2.2; have h4 := Zd.out.ge; have h5 := Zd.out.le; omega)))
 have Zx := jA (hsm.below Zv.out (fun k hk => hk.1))
 have hS := And.intro Zk.out.var Zb.out.var
 clear hgr hown hsm Za Zd Zj Zv
 refine hK.out _ _ hS (fun hHeld => ?_)
 clear hK K hS
 refine norm_ (a' := ?_) ?_ ?_; rotate_left; (show Act.put _ (some 50) _ = _; simp only [Act.put, Jq, Jr, Js]; rfl)
 refine one_ (i := 3) (N := some 52) (Jb 6 15) rfl rfl (by kernel_rfl) (by decide) (fun K hK => ?_)
 have hgr := (show Calls Try.prog 20 #[.agg (Gc gc')] w11 (fun e w' => (∃ N : Nat, e = .returned (.int .i64 N) ∧ 0 < N ∧ N ≤ 100000) ∧ Own w' W6.heap.size w7.heap.size gc' hsgc ∧ Same (Blks W6.heap.size w7.heap.size) w11 w') from OGrow.grow_calls gc' hsgc _ _ w11 Zb.out.own (by have h1 := Zb.out.lt; have h2 := Zb.out.ge; have h3 := Zb.out.le; omega) (by have h1 := Zb.out.lt; have h2 := Zb.out.ge; omega) HFc.out)
 refine goes_ Try.func20 (by kernel_rfl) rfl #[.agg (Gc gc')] (by rfl) rfl rfl (by (try simp only [List.map_toArray, List.map_cons, List.map_nil]); first | done | rfl) ?_
 refine (hgr).mono ?_
 rintro e w12 ⟨⟨N2, rfl, hN2, hM2⟩, hown, hsm⟩
 refine ⟨_, rfl, ?_⟩
 have Zg := jA (Zb.out.turn hsm hown rfl)
 have Ze := jA (Zk.out.same hsm (.inr (by have h1 := HLE.out.2.1; have h2 := Zf.out.le; have h3 := Zf.out.ge; have h4 := HLE.out.2.2; omega)))
 have Zl := jA (Zf.out.same hsm (.inr HLE.out.2.2))
 have Zo := jA (hsm.below Zx.out (fun k hk => by have h1 := HB6.out.size; have h3 : W6.heap.size ≤ k := hk.1; omega))
 have hS := And.intro Ze.out.var Zg.out.var
 clear hgr hown hsm Zk Zf Zb Zx
 refine hK.out _ _ hS (fun hHeld => ?_)
 clear hK K hS
 refine norm_ (a' := ?_) ?_ ?_; rotate_left; (show Act.put _ (some 52) _ = _; simp only [Act.put, Jq, Jr, Js]; rfl)
 refine Jp 4 53 (Jb 6 31) rfl rfl ?_
 refine Jp 5 9 (Jb 6 63) rfl rfl ?_
 clear hHeld
 refine done_ (by kernel_rfl) ?_
 have hw : IntKind.i64.wrap ((N1 : Int) + (N2 : Int)) = (N1 : Int) + (N2 : Int) := by
  have h := OGrow.wsum N1 N2 (by omega) (by omega)
  rw [Int.natCast_add] at h
  first | exact h | (rw [← wrap64_eq]; exact h) | (simp [IntKind.wrap, IntKind.signed, IntKind.bits]; omega)
 obtain ⟨N, hN⟩ : ∃ N : Int, N = (N1 : Int) + (N2 : Int) := ⟨_, rfl⟩
 rw [hw, ← hN]
 have hNp : (0 : Int) < N := by omega
 clear hw hN hN1 hN2 hM1 hM2
 go_upto_region 15 with (first
  | ((with_reducible refine gate_dst (N := 54) rfl ?_); refine wpList_load_blk rfl 39 (.tmp 5) rfl g5 ?hx (q.cells) 39 ((HO.out _ Zo.out).b5) _ Try.underlying39 rfl (i39 q) ?_; (case hx => rfl))
  | (go_at_call 16; (with_reducible refine (CG.out _ Zo.out).mono ?_); rintro e w13 ⟨gd, hsgd, rfl, ho, hh, hi, hb⟩; have HOw := jA ho; have HHsgd := jA hh; have HBw := jA hb; have HGIgd := jA hi.u16; clear ho hh hi hb)
  | ((with_reducible refine gate_dst (N := 10) rfl ?_); refine wpList_alloc_store rfl rfl 26 10 (.tmp 55) rfl rfl rfl #[.slice none 0 0, .slice none 0 0, .slice none 0 0, .slice none 0 0, .slice none 0 0, .slice none 0 0] (Gc gd) _ (COwn.z26 _) rfl (i26c gd) rfl (by simp [Gc, Value.oneCell']) rfl rfl ?_))
 have hbn := below_alloc (Below.refl _ w13) (.cells (Gc gd) 26)
 have hvn : Stays (w13.alloc (.cells (Gc gd) 26)) w13.heap.size (Gc gd) 26 := heap_alloc_new w13 _
 have hzn : (w13.alloc (.cells (Gc gd) 26)).heap.size = w13.heap.size + 1 := by rw [World.size_alloc]
 obtain ⟨W13, hWn⟩ : ∃ W, W = w13.alloc (.cells (Gc gd) 26) := ⟨_, rfl⟩
 obtain ⟨g10, hgn⟩ : ∃ g, g = w13.heap.size := ⟨_, rfl⟩
 rw [← hWn] at hbn hvn hzn ⊢
 rw [← hgn] at hvn hzn ⊢
 have hall := below_then HBw.out HBw.out.size hbn
 have Zy := jA (below_then Zo.out Zo.out.size hall)
 have HAgd := jA (An.mk (v := g10) (HOw.out.below hbn) hvn (by rw [hgn]; exact Nat.le_refl _) HBw.out.size)
 have HZgd := jA (show w13.heap.size = g10 ∧ W13.heap.size = g10 + 1 from ⟨hgn.symm, hzn⟩)
 have Ze := jA (Ze.out.below hall)
 have Zl := jA (Zl.out.below hall)
 have Zg := jA (Zg.out.below hall)
 clear hall hbn hvn hWn hgn hzn HOw HBw
 have H1 := jA (show Calls Try.prog 21 #[.agg (Gc ga'), .int .i64 1] W13 (fun e w' => e = .returned (.bool true) ∧ Below W13.heap.size W13 w') from (by obtain ⟨_, _, _, _, _, _, _, _, _, _, _, _, _, _, _, _, _, _, _, f3, f2, fm⟩ := HM1.out; exact OWhole.whole_calls ga' hsga _ _ 1 (by decide) W13 Ze.out.own HFa.out f3 f2 fm))
 go_upto_region 16 with (first
  | ((with_reducible refine gate_dst (N := 56) rfl ?_); refine wpList_load_blk rfl 26 (.tmp 6) rfl g6 ?hx (Gc ga') 26 (Ze.out.var) _ Try.underlying26 rfl (i26c ga') ?_; (case hx => rfl))
  | (go_at_call 21; (with_reducible refine H1.out.mono ?_); rintro e W14 ⟨rfl, hb⟩; have Zz := jA (Zl.out.below hb); have Zq := jA (Zg.out.below hb); have ZA := jA (HAgd.out.below hb); have ZB := jA (below_then Zy.out Zy.out.size hb); clear hb))
 have H2 := jA (show Calls Try.prog 21 #[.agg (Gc gc'), .int .i64 2] W14 (fun e w' => e = .returned (.bool true) ∧ Below W14.heap.size W14 w') from (by obtain ⟨_, _, _, _, _, _, _, _, _, _, _, _, _, _, _, _, _, _, _, f3, f2, fm⟩ := HM2.out; exact OWhole.whole_calls gc' hsgc _ _ 2 (by decide) W14 Zq.out.own HFc.out f3 f2 fm))
 go_upto_region 17 with (first
  | ((with_reducible refine gate_dst (N := 58) rfl ?_); refine wpList_load_blk rfl 26 (.tmp 8) rfl g8 ?hx (Gc gc') 26 (Zq.out.var) _ Try.underlying26 rfl (i26c gc') ?_; (case hx => rfl))
  | (go_at_call 21; (with_reducible refine H2.out.mono ?_); rintro e W15 ⟨rfl, hb⟩; have Zr := jA (Zz.out.below hb); have Zs := jA (ZA.out.below hb); have Zc := jA (below_then ZB.out ZB.out.size hb); clear hb))
 have SGb := jA (fun (W : World) (hb : Below W15.heap.size W15 W) => show Calls Try.prog 18 #[.agg (Gc gb), .agg (Gc gw)] W (fun e w' => e = .returned (.bool true) ∧ Below W.heap.size W w') from same_go HF.out HHsgb.out HWT.out ((Zr.out.below hb).own.In (fun r hr x hx => (HGIgb.out r hr x hx))) (HO.out W (below_then Zc.out Zc.out.size hb)).iw)
 have SGd := jA (fun (W : World) (hb : Below W15.heap.size W15 W) => show Calls Try.prog 18 #[.agg (Gc gd), .agg (Gc gw)] W (fun e w' => e = .returned (.bool true) ∧ Below W.heap.size W w') from same_go HF.out HHsgd.out HWT.out ((Zs.out.below hb).own.In (fun r hr x hx => (HGIgd.out r hr x hx))) (HO.out W (below_then Zc.out Zc.out.size hb)).iw)
 have HX := jA (fun (W : World) (hb : Below W15.heap.size W15 W) => And.intro (Zr.out.var.below hb) (And.intro (Zs.out.var.below hb) (HO.out W (below_then Zc.out Zc.out.size hb))))
 have HBx := jA (Below.refl W15.heap.size W15)
 go_wp2_with (first
  | ((with_reducible refine gate_dst (N := 69) rfl ?_); refine gate_guard (by rfl) ?_; dsimp only; refine wpList_load_blk rfl 26 (.tmp 7) rfl g7 ?hx (Gc gb) 26 ((HX.out _ HBx.out).1) _ Try.underlying26 rfl (i26c gb) ?_; (case hx => rfl))
  | ((with_reducible refine gate_dst (N := 70) rfl ?_); refine gate_guard (by rfl) ?_; dsimp only; refine wpList_load_blk rfl 26 (.tmp 3) rfl g3 ?hx (Gc gw) 26 ((HX.out _ HBx.out).2.2.b3) _ Try.underlying26 rfl (i26c gw) ?_; (case hx => rfl))
  | (go_at_call 18; (with_reducible refine (SGb.out _ HBx.out).mono ?_); rintro e w16 ⟨rfl, hb⟩; have HBy := jA (below_then HBx.out HBx.out.size hb); clear hb)
  | ((with_reducible refine gate_dst (N := 74) rfl ?_); refine gate_guard (by rfl) ?_; dsimp only; refine wpList_load_blk rfl 26 (.tmp 10) rfl g10 ?hx (Gc gd) 26 ((HX.out _ HBy.out).2.1) _ Try.underlying26 rfl (i26c gd) ?_; (case hx => rfl))
  | ((with_reducible refine gate_dst (N := 75) rfl ?_); refine gate_guard (by rfl) ?_; dsimp only; refine wpList_load_blk rfl 26 (.tmp 3) rfl g3 ?hx (Gc gw) 26 ((HX.out _ HBy.out).2.2.b3) _ Try.underlying26 rfl (i26c gw) ?_; (case hx => rfl))
  | (go_at_call 18; (with_reducible refine (SGd.out _ HBy.out).mono ?_); rintro e w17 ⟨rfl, hb⟩; have HBz := jA (below_then HBy.out HBy.out.size hb); clear hb)
  | ((with_reducible refine gate_dst (N := 79) rfl ?_); refine gate_guard (by rfl) ?_; dsimp only; refine wpList_load_blk rfl 43 (.tmp 4) rfl g4 ?hx (roomV q r) 43 ((HX.out _ HBz.out).2.2.b4) _ Try.underlying43 rfl (i43 q r) ?_; (case hx => rfl))
  | ((with_reducible refine gate_dst (N := 80) rfl ?_); refine gate_guard (by rfl) ?_; dsimp only; refine wpList_load_blk rfl 39 (.tmp 1) rfl w.heap.size ?hx (p.cells) 39 ((HX.out _ HBz.out).2.2.b1) _ Try.underlying39 rfl (i39 p) ?_; (case hx => rfl))
  | (go_at_call 17; (with_reducible refine (UG.out _ (below_then Zc.out Zc.out.size HBz.out)).mono ?_); rintro e W18 ⟨rfl, hb⟩; have HBu := jA (below_then (below_then Zc.out Zc.out.size HBz.out) (below_then Zc.out Zc.out.size HBz.out).size hb); clear hb))
 go_ret
 exact ⟨rfl, below_then HB.out HB.out.size HBu.out⟩
end Go.Proofs.Ythaiodklfoegiaa.OLaw
