/- Of this session's texts, what the row uses: PGx41, PGx2, PGx42, PGx43, QUntP. -/
import Derived.Test.YthaiodklfoegiaaZ1
import Derived.Test.YthaiodklfoegiaaZ6
set_option linter.unusedSimpArgs false
set_option linter.unusedVariables false
set_option maxHeartbeats 8000000
set_option maxRecDepth 100000
namespace Go.Proofs.Ythaiodklfoegiaa.PG
open YthaiodklfoegiaaF
attribute [local go_sem high] run_feq run_fne run_flt_lt run_flt_le run_flt_gt run_flt_ge
open Go.RowKit YthaiodklfoegiaaW.PrintWords YthaiodklfoegiaaW.PrintLast YthaiodklfoegiaaW.PrintMore
attribute [local go_sem] max2_int min2_int max_two min_two max_three min_three max_four min_four
mutual
def gatehouselaw11_asLong.j0 : Nat → List ByteArray → List ByteArray → Bool → Option (Bool)
 | 0, _, _, _ => none
 | k + 1, x0, x1, x19 => if x19 = true then (some false) else (gatehouselaw11_asLong.l0 k x0 x1 0)
def gatehouselaw11_asLong.l0 : Nat → List ByteArray → List ByteArray → Int → Option (Bool)
 | 0, _, _, _ => none
 | k + 1, x0, x1, x5 => if x5 < (x1.length : Int) then (if 0 ≤ x5 then (if x5 < (x0.length : Int) then (if (rdOf ByteArray.empty x0 x5).toList = (rdOf ByteArray.empty x1 x5).toList then (gatehouselaw11_asLong.l0 k x0 x1 (wrap64 (x5 + 1))) else (some false)) else (none)) else (none)) else (some true)
end
def gatehouselaw11_asLong.f (k : Nat) (l0 : List ByteArray) (l1 : List ByteArray) : Option (Bool) := if (l0.length : Int) = (wrap64 ((l1.length : Int) + 1)) then (if 0 ≤ (l1.length : Int) then (if (l1.length : Int) < (l0.length : Int) then (gatehouselaw11_asLong.j0 k l0 l1 ((rdOf ByteArray.empty l0 (l1.length : Int)).toList != ([35] : List UInt8))) else (none)) else (none)) else (gatehouselaw11_asLong.j0 k l0 l1 true)
theorem gatehouselaw11_asLong.calls (k : Nat) (A0 : Option Addr) (c0 : Nat) (l0 : List ByteArray) (A1 : Option Addr) (c1 : Nat) (l1 : List ByteArray) (r : Bool) (w : World) (hr0 : Kd.C Kd.string w A0 l0.length l0) (hc0 : l0.length ≤ c0) (hr1 : Kd.C Kd.string w A1 l1.length l1) (hc1 : l1.length ≤ c1) (h : gatehouselaw11_asLong.f k l0 l1 = some r) :
  Calls Try.prog 50 #[.slice A0 l0.length c0, .slice A1 l1.length c1] w fun e w' => e = .returned (.bool r) ∧ Drawn0 w w' := by
 have HR0 := jA hr0
 have HC0 := jA hc0
 clear hr0 hc0
 have HR1 := jA hr1
 have HC1 := jA hc1
 clear hr1 hc1
 have H : (if (l0.length : Int) = (wrap64 ((l1.length : Int) + 1)) then (if 0 ≤ (l1.length : Int) then (if (l1.length : Int) < (l0.length : Int) then (gatehouselaw11_asLong.j0 k l0 l1 ((rdOf ByteArray.empty l0 (l1.length : Int)).toList != ([35] : List UInt8))) else (none)) else (none)) else (gatehouselaw11_asLong.j0 k l0 l1 true)) = some r := h
 clear h
 have HC3 := jA H
 clear H
 go_enter Try.func50, Try.ntmps50
 go_upto_region 1 with (fail)
 repeat (go_quiet (fail); go_upto_region 1 with (fail))
 go_cut [19] (fun v19 wc => ∃ (kq : Nat) (Zg : Bool), v19 = .bool Zg ∧ Aside0 (gatehouselaw11_asLong.j0 kq l0 l1 Zg = some r) ∧ Aside0 (kq ≤ k) ∧ Drawn0 w wc)
 case first =>
  have H := HC3.out
  clear HC3
  by_cases c4 : (l0.length : Int) = (wrap64 ((l1.length : Int) + 1))
  ·rw [if_pos c4] at H
   have c4b0 : ((l0.length : Int) == (wrap64 ((l1.length : Int) + 1))) = true := beq_iff_eq.mpr c4
   have c4b1 : ((l0.length : Int) != (wrap64 ((l1.length : Int) + 1))) = false := bne_eq_false_iff_eq.mpr c4
   clear c4
   (first | rw [c4b0] | (simp only [i64_w, i32_w]; rw [c4b0]) | skip)
   by_cases c5 : 0 ≤ (l1.length : Int)
   ·rw [if_pos c5] at H
    have c5b0 : decide (0 ≤ (l1.length : Int)) = true := decide_eq_true c5
    have c5b1 : decide (0 ≤ l1.length) = true := decide_eq_true (by omega)
    clear c5
    by_cases c6 : (l1.length : Int) < (l0.length : Int)
    ·rw [if_pos c6] at H
     have c6b0 : decide ((l1.length : Int) < (l0.length : Int)) = true := decide_eq_true c6
     have c6b1 : decide (l1.length < l0.length) = true := decide_eq_true (Int.ofNat_lt.mp c6)
     clear c6
     have H' := jA H
     clear H
     have Zh : 0 ≤ ((l1.length : Int) : Int) := of_decide_eq_true (by first | (with_reducible assumption) | assumption)
     have Zi : (l1.length : Int) < (l0.length : Int) := of_decide_eq_true (by first | (with_reducible assumption) | assumption)
     obtain ⟨Zq, Zp, Zb⟩ := Kd.at_string HR0.out (l1.length : Int) Zh Zi
     cases Zp
     (try simp only [Go.IntWalk.toNatUp] at Zb)
     replace Zh := eq_true Zh
     replace Zi := eq_true Zi
     go_wp2
     repeat (go_quiet (fail); try go_wp2)
     go_meet
     case rel => exact ⟨_, (((rdOf ByteArray.empty l0 (l1.length : Int)).toList != ([35] : List UInt8))), (by first | rfl | (simp; done) | (simp [*]; done)), H', ⟨by first | omega | exact Nat.le_refl _⟩, by repeat (first | exact Drawn0.refl _ | apply Drawn0.step)⟩
    ·rw [if_neg c6] at H
     exact absurd H (by simp)
   ·rw [if_neg c5] at H
    exact absurd H (by simp)
  ·rw [if_neg c4] at H
   have c4b0 : ((l0.length : Int) == (wrap64 ((l1.length : Int) + 1))) = false := beq_eq_false_iff_ne.mpr c4
   have c4b1 : ((l0.length : Int) != (wrap64 ((l1.length : Int) + 1))) = true := bne_iff_ne.mpr c4
   (first | rw [c4b0] | (simp only [i64_w, i32_w]; rw [c4b0]) | skip)
   have H' := jA H
   clear H
   go_wp2
   repeat (go_quiet (fail); try go_wp2)
   go_meet
   case rel => exact ⟨_, (true), (by first | rfl | (simp; done) | (simp [*]; done)), H', ⟨by first | omega | exact Nat.le_refl _⟩, by repeat (first | exact Drawn0.refl _ | apply Drawn0.step)⟩
 case rest =>
  clear HC3
  try clear c1
  try clear p2
  try clear q2
  try clear hx2
  try clear c4
  try clear c4b0
  try clear c4b1
  try clear c5
  try clear c5b0
  try clear c5b1
  try clear c6
  try clear c6b0
  try clear c6b1
  try clear p6
  try clear Zb
  try clear Zh
  try clear Zi
  obtain ⟨kq, Zg, rfl, HA, HJ2, ⟨mc2, rfl⟩⟩ := hcut
  cases kq with
  | zero => exact absurd HA.out (by simp [gatehouselaw11_asLong.j0])
  | succ kj2 =>
   have H := HA.out
   clear HA
   simp only [gatehouselaw11_asLong.j0] at H
   by_cases c7 : Zg = true
   ·subst c7
    have H1 : (some false) = some r := by rw [if_pos rfl] at H; exact H
    clear H
    have H := H1
    clear H1
    obtain rfl := Option.some.inj H
    go_wp2
    repeat (go_quiet (fail); try go_wp2)
    go_ret
    exact ⟨by first | rfl | (simp; done) | (simp [*]; done), by repeat (first | exact Drawn0.refl _ | apply Drawn0.step)⟩
   ·replace c7 := Bool.eq_false_iff.mpr c7
    subst c7
    have H1 : (gatehouselaw11_asLong.l0 kj2 l0 l1 0) = some r := by rw [if_neg (show ¬ (false = true) by decide)] at H; exact H
    clear H
    have H := H1
    clear H1
    have H' := jA H
    clear H
    go_wp2
    repeat (go_quiet (fail); try go_wp2)
    go_loopg [5] kj2 (fun kq v5 w' => ∃ (Za : Int), v5 = .int .i64 Za ∧ Aside0 (gatehouselaw11_asLong.l0 kq l0 l1 Za = some r) ∧ Aside0 (kq ≤ kj2) ∧ Drawn0 w w')
    case atStart => exact ⟨(0), (by first | rfl | (simp; done) | (simp [*]; done)), H', ⟨Nat.le_refl _⟩, by repeat (first | exact Drawn0.refl _ | apply Drawn0.step)⟩
    case round =>
     clear H'
     try clear c1
     try clear c2
     try clear p2
     try clear q2
     try clear hx2
     try clear c4
     try clear c4b0
     try clear c4b1
     try clear c5
     try clear c5b0
     try clear c5b1
     try clear c6
     try clear c6b0
     try clear c6b1
     try clear p6
     try clear c7
     try clear Zb
     try clear p2
     try clear Zh
     try clear p6
     try clear q2
     try clear Zi
     obtain ⟨Za, rfl, HA, HK2, ⟨m2, rfl⟩⟩ := hrel
     cases gk with
     | zero => exact absurd HA.out (by simp [gatehouselaw11_asLong.l0])
     | succ k2 =>
      have H := HA.out
      clear HA
      simp only [gatehouselaw11_asLong.l0] at H
      by_cases c8 : Za < (l1.length : Int)
      ·rw [if_pos c8] at H
       have c8b0 : decide (Za < (l1.length : Int)) = true := decide_eq_true c8
       clear c8
       by_cases c9 : 0 ≤ Za
       ·rw [if_pos c9] at H
        have c9b0 : decide (0 ≤ Za) = true := decide_eq_true c9
        clear c9
        by_cases c10 : Za < (l0.length : Int)
        ·rw [if_pos c10] at H
         have c10b0 : decide (Za < (l0.length : Int)) = true := decide_eq_true c10
         clear c10
         by_cases c11 : (rdOf ByteArray.empty l0 Za).toList = (rdOf ByteArray.empty l1 Za).toList
         ·rw [if_pos c11] at H
          have c11b0 : ((rdOf ByteArray.empty l0 Za).toList == (rdOf ByteArray.empty l1 Za).toList) = true := beq_iff_eq.mpr c11
          have c11b1 : ((rdOf ByteArray.empty l0 Za).toList != (rdOf ByteArray.empty l1 Za).toList) = false := bne_eq_false_iff_eq.mpr c11
          clear c11
          have H' := jA H
          clear H
          have Zc : 0 ≤ (Za : Int) := of_decide_eq_true (by first | (with_reducible assumption) | assumption)
          have Zd : Za < (l0.length : Int) := of_decide_eq_true (by first | (with_reducible assumption) | assumption)
          obtain ⟨Zn, Zl, Zj⟩ := Kd.at_string HR0.out Za Zc Zd
          cases Zl
          replace Zc := eq_true Zc
          replace Zd := eq_true Zd
          have Ze : 0 ≤ (Za : Int) := of_decide_eq_true (by first | (with_reducible assumption) | assumption)
          have Zf : Za < (l1.length : Int) := of_decide_eq_true (by first | (with_reducible assumption) | assumption)
          obtain ⟨Zo, Zm, Zk⟩ := Kd.at_string HR1.out Za Ze Zf
          cases Zm
          replace Ze := eq_true Ze
          replace Zf := eq_true Zf
          go_wp2
          repeat (go_quiet (fail); try go_wp2)
          go_roundg k2
          case measure => have := HJ2.out; have := HK2.out; omega
          case rel => exact ⟨(wrap64 (Za + 1)), (by first | rfl | (simp; done) | (simp [*]; done)), H', ⟨by have := HJ2.out; have := HK2.out; omega⟩, by repeat (first | exact Drawn0.refl _ | apply Drawn0.step)⟩
         ·rw [if_neg c11] at H
          have c11b0 : ((rdOf ByteArray.empty l0 Za).toList == (rdOf ByteArray.empty l1 Za).toList) = false := beq_eq_false_iff_ne.mpr c11
          have c11b1 : ((rdOf ByteArray.empty l0 Za).toList != (rdOf ByteArray.empty l1 Za).toList) = true := bne_iff_ne.mpr c11
          obtain rfl := Option.some.inj H
          have Zc : 0 ≤ (Za : Int) := of_decide_eq_true (by first | (with_reducible assumption) | assumption)
          have Zd : Za < (l0.length : Int) := of_decide_eq_true (by first | (with_reducible assumption) | assumption)
          obtain ⟨Zn, Zl, Zj⟩ := Kd.at_string HR0.out Za Zc Zd
          cases Zl
          replace Zc := eq_true Zc
          replace Zd := eq_true Zd
          have Ze : 0 ≤ (Za : Int) := of_decide_eq_true (by first | (with_reducible assumption) | assumption)
          have Zf : Za < (l1.length : Int) := of_decide_eq_true (by first | (with_reducible assumption) | assumption)
          obtain ⟨Zo, Zm, Zk⟩ := Kd.at_string HR1.out Za Ze Zf
          cases Zm
          replace Ze := eq_true Ze
          replace Zf := eq_true Zf
          go_wp2
          repeat (go_quiet (fail); try go_wp2)
          go_ret
          exact ⟨by first | rfl | (simp; done) | (simp [*]; done), by repeat (first | exact Drawn0.refl _ | apply Drawn0.step)⟩
        ·rw [if_neg c10] at H
         exact absurd H (by simp)
       ·rw [if_neg c9] at H
        exact absurd H (by simp)
      ·rw [if_neg c8] at H
       have c8b0 : decide (Za < (l1.length : Int)) = false := decide_eq_false c8
       clear c8
       obtain rfl := Option.some.inj H
       go_wp2
       repeat (go_quiet (fail); try go_wp2)
       go_ret
       exact ⟨by first | rfl | (simp; done) | (simp [*]; done), by repeat (first | exact Drawn0.refl _ | apply Drawn0.step)⟩
end Go.Proofs.Ythaiodklfoegiaa.PG
namespace Go.Proofs.Ythaiodklfoegiaa.PG
open YthaiodklfoegiaaF
attribute [local go_sem high] run_feq run_fne run_flt_lt run_flt_le run_flt_gt run_flt_ge
open Go.RowKit YthaiodklfoegiaaW.PrintWords YthaiodklfoegiaaW.PrintLast YthaiodklfoegiaaW.PrintMore
attribute [local go_sem] max2_int min2_int max_two min_two max_three min_three max_four min_four
theorem eqA108 (d : Nat) (w : World) (x0 y0 : ByteArray) (x1 y1 : ByteArray) :
  (Op.equalIn (d + 2) 108 (.agg #[.string x0, .string x1]) (.agg #[.string y0, .string y1])).run Try.prog w = .ok (x0.toList == y0.toList && (x1.toList == y1.toList)) w := by
 refine eqA_of Try.underlying108 (by kernel_rfl) ?_
 refine eqf_cons (by rfl) (by go_simp; rfl) (by go_simp; rfl) (by go_simp) ?_
 exact eqf_last (by rfl) (by go_simp; rfl) (by go_simp; rfl) (by go_simp)
end Go.Proofs.Ythaiodklfoegiaa.PG
namespace Go.Proofs.Ythaiodklfoegiaa.PG
open YthaiodklfoegiaaF
attribute [local go_sem high] run_feq run_fne run_flt_lt run_flt_le run_flt_gt run_flt_ge
open Go.RowKit YthaiodklfoegiaaW.PrintWords YthaiodklfoegiaaW.PrintLast YthaiodklfoegiaaW.PrintMore
attribute [local go_sem] max2_int min2_int max_two min_two max_three min_three max_four min_four
attribute [local go_sem high] eqA108
mutual
def gatehouselaw11_asPairs.j0 : Nat → List (S108) → List (S108) → Bool → Option (Bool)
 | 0, _, _, _ => none
 | k + 1, x0, x1, x20 => if x20 = true then (some false) else (gatehouselaw11_asPairs.l0 k x0 x1 0)
def gatehouselaw11_asPairs.l0 : Nat → List (S108) → List (S108) → Int → Option (Bool)
 | 0, _, _, _ => none
 | k + 1, x0, x1, x5 => if x5 < (x1.length : Int) then (if 0 ≤ x5 then (if x5 < (x0.length : Int) then (if (!((((rd_T108 x0 x5).f0).toList) == (((rd_T108 x1 x5).f0).toList)) || (!((((rd_T108 x0 x5).f1).toList) == (((rd_T108 x1 x5).f1).toList)))) = true then (some false) else (gatehouselaw11_asPairs.l0 k x0 x1 (wrap64 (x5 + 1)))) else (none)) else (none)) else (some true)
end
def gatehouselaw11_asPairs.f (k : Nat) (l0 : List (S108)) (l1 : List (S108)) : Option (Bool) := if (l0.length : Int) = (wrap64 ((l1.length : Int) + 1)) then (if 0 ≤ (l1.length : Int) then (if (l1.length : Int) < (l0.length : Int) then (gatehouselaw11_asPairs.j0 k l0 l1 (!((((rd_T108 l0 (l1.length : Int)).f0).toList) == ([35] : List UInt8)) || (!((((rd_T108 l0 (l1.length : Int)).f1).toList) == ([] : List UInt8))))) else (none)) else (none)) else (gatehouselaw11_asPairs.j0 k l0 l1 true)
theorem gatehouselaw11_asPairs.calls (k : Nat) (A0 : Option Addr) (c0 : Nat) (l0 : List (S108)) (A1 : Option Addr) (c1 : Nat) (l1 : List (S108)) (r : Bool) (w : World) (hr0 : Kd.C k108 w A0 l0.length l0) (hc0 : l0.length ≤ c0) (hr1 : Kd.C k108 w A1 l1.length l1) (hc1 : l1.length ≤ c1) (h : gatehouselaw11_asPairs.f k l0 l1 = some r) :
  Calls Try.prog 51 #[.slice A0 l0.length c0, .slice A1 l1.length c1] w fun e w' => e = .returned (.bool r) ∧ Drawn0 w w' := by
 have Zt := Try.underlying108
 have HR0 := jA hr0
 have HC0 := jA hc0
 clear hr0 hc0
 have HR1 := jA hr1
 have HC1 := jA hc1
 clear hr1 hc1
 have H : (if (l0.length : Int) = (wrap64 ((l1.length : Int) + 1)) then (if 0 ≤ (l1.length : Int) then (if (l1.length : Int) < (l0.length : Int) then (gatehouselaw11_asPairs.j0 k l0 l1 (!((((rd_T108 l0 (l1.length : Int)).f0).toList) == ([35] : List UInt8)) || (!((((rd_T108 l0 (l1.length : Int)).f1).toList) == ([] : List UInt8))))) else (none)) else (none)) else (gatehouselaw11_asPairs.j0 k l0 l1 true)) = some r := h
 clear h
 have HC3 := jA H
 clear H
 go_enter Try.func51, Try.ntmps51
 go_upto_region 1 with (fail)
 repeat (go_quiet (fail); go_upto_region 1 with (fail))
 go_cut [20] (fun v20 wc => ∃ (kq : Nat) (Zh : Bool), v20 = .bool Zh ∧ Aside0 (gatehouselaw11_asPairs.j0 kq l0 l1 Zh = some r) ∧ Aside0 (kq ≤ k) ∧ Drawn0 w wc)
 case first =>
  have H := HC3.out
  clear HC3
  by_cases c4 : (l0.length : Int) = (wrap64 ((l1.length : Int) + 1))
  ·rw [if_pos c4] at H
   have c4b0 : ((l0.length : Int) == (wrap64 ((l1.length : Int) + 1))) = true := beq_iff_eq.mpr c4
   have c4b1 : ((l0.length : Int) != (wrap64 ((l1.length : Int) + 1))) = false := bne_eq_false_iff_eq.mpr c4
   clear c4
   (first | rw [c4b0] | (simp only [i64_w, i32_w]; rw [c4b0]) | skip)
   by_cases c5 : 0 ≤ (l1.length : Int)
   ·rw [if_pos c5] at H
    have c5b0 : decide (0 ≤ (l1.length : Int)) = true := decide_eq_true c5
    have c5b1 : decide (0 ≤ l1.length) = true := decide_eq_true (by omega)
    clear c5
    by_cases c6 : (l1.length : Int) < (l0.length : Int)
    ·rw [if_pos c6] at H
     have c6b0 : decide ((l1.length : Int) < (l0.length : Int)) = true := decide_eq_true c6
     have c6b1 : decide (l1.length < l0.length) = true := decide_eq_true (Int.ofNat_lt.mp c6)
     clear c6
     have H' := jA H
     clear H
     have Zi : 0 ≤ ((l1.length : Int) : Int) := of_decide_eq_true (by first | (with_reducible assumption) | assumption)
     have Zj : (l1.length : Int) < (l0.length : Int) := of_decide_eq_true (by first | (with_reducible assumption) | assumption)
     obtain ⟨Zu, Zs, Zb, Zc⟩ := at_T108 HR0.out (l1.length : Int) Zi Zj
     cases Zs
     (try simp only [Go.IntWalk.toNatUp] at Zb)
     (try simp only [Go.IntWalk.toNatUp] at Zc)
     replace Zi := eq_true Zi
     replace Zj := eq_true Zj
     go_wp2
     repeat (go_quiet (fail); try go_wp2)
     go_meet
     case rel => exact ⟨_, ((!((((rd_T108 l0 (l1.length : Int)).f0).toList) == ([35] : List UInt8)) || (!((((rd_T108 l0 (l1.length : Int)).f1).toList) == ([] : List UInt8))))), (by first | rfl | (simp; done) | (simp [*]; done)), H', ⟨by first | omega | exact Nat.le_refl _⟩, by repeat (first | exact Drawn0.refl _ | apply Drawn0.step)⟩
    ·rw [if_neg c6] at H
     exact absurd H (by simp)
   ·rw [if_neg c5] at H
    exact absurd H (by simp)
  ·rw [if_neg c4] at H
   have c4b0 : ((l0.length : Int) == (wrap64 ((l1.length : Int) + 1))) = false := beq_eq_false_iff_ne.mpr c4
   have c4b1 : ((l0.length : Int) != (wrap64 ((l1.length : Int) + 1))) = true := bne_iff_ne.mpr c4
   (first | rw [c4b0] | (simp only [i64_w, i32_w]; rw [c4b0]) | skip)
   have H' := jA H
   clear H
   go_wp2
   repeat (go_quiet (fail); try go_wp2)
   go_meet
   case rel => exact ⟨_, (true), (by first | rfl | (simp; done) | (simp [*]; done)), H', ⟨by first | omega | exact Nat.le_refl _⟩, by repeat (first | exact Drawn0.refl _ | apply Drawn0.step)⟩
 case rest =>
  clear HC3
  try clear c1
  try clear p2
  try clear q2
  try clear hx2
  try clear c4
  try clear c4b0
  try clear c4b1
  try clear c5
  try clear c5b0
  try clear c5b1
  try clear c6
  try clear c6b0
  try clear c6b1
  try clear p6
  try clear Zb
  try clear Zc
  try clear Zi
  try clear Zj
  obtain ⟨kq, Zh, rfl, HA, HJ2, ⟨mc2, rfl⟩⟩ := hcut
  cases kq with
  | zero => exact absurd HA.out (by simp [gatehouselaw11_asPairs.j0])
  | succ kj2 =>
   have H := HA.out
   clear HA
   simp only [gatehouselaw11_asPairs.j0] at H
   by_cases c7 : Zh = true
   ·subst c7
    have H1 : (some false) = some r := by rw [if_pos rfl] at H; exact H
    clear H
    have H := H1
    clear H1
    obtain rfl := Option.some.inj H
    go_wp2
    repeat (go_quiet (fail); try go_wp2)
    go_ret
    exact ⟨by first | rfl | (simp; done) | (simp [*]; done), by repeat (first | exact Drawn0.refl _ | apply Drawn0.step)⟩
   ·replace c7 := Bool.eq_false_iff.mpr c7
    subst c7
    have H1 : (gatehouselaw11_asPairs.l0 kj2 l0 l1 0) = some r := by rw [if_neg (show ¬ (false = true) by decide)] at H; exact H
    clear H
    have H := H1
    clear H1
    have H' := jA H
    clear H
    go_wp2
    repeat (go_quiet (fail); try go_wp2)
    go_loopg [5] kj2 (fun kq v5 w' => ∃ (Za : Int), v5 = .int .i64 Za ∧ Aside0 (gatehouselaw11_asPairs.l0 kq l0 l1 Za = some r) ∧ Aside0 (kq ≤ kj2) ∧ Drawn0 w w')
    case atStart => exact ⟨(0), (by first | rfl | (simp; done) | (simp [*]; done)), H', ⟨Nat.le_refl _⟩, by repeat (first | exact Drawn0.refl _ | apply Drawn0.step)⟩
    case round =>
     clear H'
     try clear c1
     try clear c2
     try clear p2
     try clear q2
     try clear hx2
     try clear c4
     try clear c4b0
     try clear c4b1
     try clear c5
     try clear c5b0
     try clear c5b1
     try clear c6
     try clear c6b0
     try clear c6b1
     try clear p6
     try clear c7
     try clear Zb
     try clear Zc
     try clear p2
     try clear Zi
     try clear p6
     try clear q2
     try clear Zj
     obtain ⟨Za, rfl, HA, HK2, ⟨m2, rfl⟩⟩ := hrel
     cases gk with
     | zero => exact absurd HA.out (by simp [gatehouselaw11_asPairs.l0])
     | succ k2 =>
      have H := HA.out
      clear HA
      simp only [gatehouselaw11_asPairs.l0] at H
      by_cases c8 : Za < (l1.length : Int)
      ·rw [if_pos c8] at H
       have c8b0 : decide (Za < (l1.length : Int)) = true := decide_eq_true c8
       clear c8
       by_cases c9 : 0 ≤ Za
       ·rw [if_pos c9] at H
        have c9b0 : decide (0 ≤ Za) = true := decide_eq_true c9
        clear c9
        by_cases c10 : Za < (l0.length : Int)
        ·rw [if_pos c10] at H
         have c10b0 : decide (Za < (l0.length : Int)) = true := decide_eq_true c10
         clear c10
         by_cases c11 : (!((((rd_T108 l0 Za).f0).toList) == (((rd_T108 l1 Za).f0).toList)) || (!((((rd_T108 l0 Za).f1).toList) == (((rd_T108 l1 Za).f1).toList)))) = true
         ·rw [if_pos c11] at H
          have c11b0 : (!((((rd_T108 l0 Za).f0).toList) == (((rd_T108 l1 Za).f0).toList)) || (!((((rd_T108 l0 Za).f1).toList) == (((rd_T108 l1 Za).f1).toList)))) = true := c11
          clear c11
          obtain rfl := Option.some.inj H
          have Zd : 0 ≤ (Za : Int) := of_decide_eq_true (by first | (with_reducible assumption) | assumption)
          have Ze : Za < (l0.length : Int) := of_decide_eq_true (by first | (with_reducible assumption) | assumption)
          obtain ⟨Zq, Zo, Zk, Zl⟩ := at_T108 HR0.out Za Zd Ze
          cases Zo
          replace Zd := eq_true Zd
          replace Ze := eq_true Ze
          have Zf : 0 ≤ (Za : Int) := of_decide_eq_true (by first | (with_reducible assumption) | assumption)
          have Zg : Za < (l1.length : Int) := of_decide_eq_true (by first | (with_reducible assumption) | assumption)
          obtain ⟨Zr, Zp, Zm, Zn⟩ := at_T108 HR1.out Za Zf Zg
          cases Zp
          replace Zf := eq_true Zf
          replace Zg := eq_true Zg
          go_wp2
          repeat (go_quiet (fail); try go_wp2)
          go_ret
          exact ⟨by first | rfl | (simp; done) | (simp [*]; done), by repeat (first | exact Drawn0.refl _ | apply Drawn0.step)⟩
         ·rw [if_neg c11] at H
          have c11b0 : (!((((rd_T108 l0 Za).f0).toList) == (((rd_T108 l1 Za).f0).toList)) || (!((((rd_T108 l0 Za).f1).toList) == (((rd_T108 l1 Za).f1).toList)))) = false := by simpa using c11
          clear c11
          have H' := jA H
          clear H
          have Zd : 0 ≤ (Za : Int) := of_decide_eq_true (by first | (with_reducible assumption) | assumption)
          have Ze : Za < (l0.length : Int) := of_decide_eq_true (by first | (with_reducible assumption) | assumption)
          obtain ⟨Zq, Zo, Zk, Zl⟩ := at_T108 HR0.out Za Zd Ze
          cases Zo
          replace Zd := eq_true Zd
          replace Ze := eq_true Ze
          have Zf : 0 ≤ (Za : Int) := of_decide_eq_true (by first | (with_reducible assumption) | assumption)
          have Zg : Za < (l1.length : Int) := of_decide_eq_true (by first | (with_reducible assumption) | assumption)
          obtain ⟨Zr, Zp, Zm, Zn⟩ := at_T108 HR1.out Za Zf Zg
          cases Zp
          replace Zf := eq_true Zf
          replace Zg := eq_true Zg
          go_wp2
          repeat (go_quiet (fail); try go_wp2)
          go_roundg k2
          case measure => have := HJ2.out; have := HK2.out; omega
          case rel => exact ⟨(wrap64 (Za + 1)), (by first | rfl | (simp; done) | (simp [*]; done)), H', ⟨by have := HJ2.out; have := HK2.out; omega⟩, by repeat (first | exact Drawn0.refl _ | apply Drawn0.step)⟩
        ·rw [if_neg c10] at H
         exact absurd H (by simp)
       ·rw [if_neg c9] at H
        exact absurd H (by simp)
      ·rw [if_neg c8] at H
       have c8b0 : decide (Za < (l1.length : Int)) = false := decide_eq_false c8
       clear c8
       obtain rfl := Option.some.inj H
       go_wp2
       repeat (go_quiet (fail); try go_wp2)
       go_ret
       exact ⟨by first | rfl | (simp; done) | (simp [*]; done), by repeat (first | exact Drawn0.refl _ | apply Drawn0.step)⟩
end Go.Proofs.Ythaiodklfoegiaa.PG
namespace Go.Proofs.Ythaiodklfoegiaa.PG
open YthaiodklfoegiaaF
attribute [local go_sem high] run_feq run_fne run_flt_lt run_flt_le run_flt_gt run_flt_ge
open Go.RowKit YthaiodklfoegiaaW.PrintWords YthaiodklfoegiaaW.PrintLast YthaiodklfoegiaaW.PrintMore
attribute [local go_sem] max2_int min2_int max_two min_two max_three min_three max_four min_four
def gatehouselaw11_equals.f (a0 : Nat) (a1 : Nat) : Option (Bool) := if (feq a0 a1) = true then (some true) else (if (fne a0 a0) = true then (some (fne a1 a1)) else (some false))
theorem gatehouselaw11_equals.calls (a0 : Nat) (a1 : Nat) (r : Bool) (w : World) (h : gatehouselaw11_equals.f a0 a1 = some r) :
  Calls Try.prog 52 #[.float .f64 a0, .float .f64 a1] w fun e w' => e = .returned (.bool r) ∧ Drawn0 w w' := by
 have H : (if (feq a0 a1) = true then (some true) else (if (fne a0 a0) = true then (some (fne a1 a1)) else (some false))) = some r := h
 clear h
 by_cases c3 : (feq a0 a1) = true
 ·rw [if_pos c3] at H
  have c3b0 : (feq a0 a1) = true := c3
  clear c3
  obtain rfl := Option.some.inj H
  go_enter Try.func52, Try.ntmps52
  go_wp2
  go_ret
  exact ⟨by first | rfl | (simp; done) | (simp [*]; done), by repeat (first | exact Drawn0.refl _ | apply Drawn0.step)⟩
 ·rw [if_neg c3] at H
  have c3b0 : (feq a0 a1) = false := by simpa using c3
  clear c3
  by_cases c4 : (fne a0 a0) = true
  ·rw [if_pos c4] at H
   have c4b0 : (fne a0 a0) = true := c4
   clear c4
   obtain rfl := Option.some.inj H
   go_enter Try.func52, Try.ntmps52
   go_wp2
   go_ret
   exact ⟨by first | rfl | (simp; done) | (simp [*]; done), by repeat (first | exact Drawn0.refl _ | apply Drawn0.step)⟩
  ·rw [if_neg c4] at H
   have c4b0 : (fne a0 a0) = false := by simpa using c4
   clear c4
   obtain rfl := Option.some.inj H
   go_enter Try.func52, Try.ntmps52
   go_wp2
   go_ret
   exact ⟨by first | rfl | (simp; done) | (simp [*]; done), by repeat (first | exact Drawn0.refl _ | apply Drawn0.step)⟩
end Go.Proofs.Ythaiodklfoegiaa.PG
/- Plain facts for gatehouselaw11.Room.untouched. -/
namespace Go.Proofs.Ythaiodklfoegiaa.QUntP
open Go.RowKit YthaiodklfoegiaaW.PrintWords YthaiodklfoegiaaW.PrintLast YthaiodklfoegiaaW.PrintMore Go.Maps
open PG YthaiodklfoegiaaF BRow MPut CSame GDiffer MSide MPol OBase OGr QRoomB
abbrev e0 : ByteArray := ⟨#[]⟩
theorem rdOf_app {l m : List ByteArray} {i : Nat} (h : i < l.length) : rdOf ByteArray.empty (l ++ m) (i : Int) = rdOf ByteArray.empty l (i : Int) := by
 simp [rdOf, List.getD_eq_getElem?_getD, List.getElem?_append_left h]
theorem rdOf_last {l : List ByteArray} {x : ByteArray} : rdOf ByteArray.empty (l ++ [x]) (l.length : Int) = x := by
 simp [rdOf, List.getD_eq_getElem?_getD]
theorem asLong_true (l : List ByteArray) (hl : l.length ≤ 1048576) : gatehouselaw11_asLong.f (l.length + 2) (l ++ [sh]) l = some true := by
 have go : ∀ (n i : Nat), i + n = l.length → ∀ q, n < q → gatehouselaw11_asLong.l0 q (l ++ [sh]) l (i : Int) = some true := by
  intro n
  induction n with
  | zero =>
   intro i hi q hq
   obtain ⟨q, rfl⟩ : ∃ m, q = m + 1 := ⟨q - 1, by omega⟩
   simp only [gatehouselaw11_asLong.l0]
   rw [if_neg (by omega)]
  | succ n ih =>
   intro i hi q hq
   obtain ⟨q, rfl⟩ : ∃ m, q = m + 1 := ⟨q - 1, by omega⟩
   have hw : wrap64 ((i : Int) + 1) = ((i + 1 : Nat) : Int) := by unfold wrap64; omega
   simp only [gatehouselaw11_asLong.l0]
   rw [if_pos (by omega), if_pos (by omega), if_pos (by simp; omega), rdOf_app (by omega), if_pos rfl, hw]
   exact ih (i + 1) (by omega) q (by omega)
 have hw : wrap64 ((l.length : Int) + 1) = ((l.length + 1 : Nat) : Int) := by unfold wrap64; omega
 unfold gatehouselaw11_asLong.f
 rw [if_pos (by rw [hw]; simp), if_pos (by omega), if_pos (by simp; omega), rdOf_last]
 show gatehouselaw11_asLong.j0 (l.length + 1 + 1) (l ++ [sh]) l (sh.toList != ([35] : List UInt8)) = some true
 have hb : (sh.toList != ([35] : List UInt8)) = false := by kernel_rfl
 rw [hb]
 simp only [gatehouselaw11_asLong.j0]
 rw [if_neg (by simp)]
 exact go l.length 0 (by omega) _ (by omega)
theorem asLong_go (A A' : Option Addr) (c c' : Nat) (l : List ByteArray) (w : World) (hl : l.length ≤ 1048576) (h : Kd.C Kd.string w A (l ++ [sh]).length (l ++ [sh])) (hc : (l ++ [sh]).length ≤ c) (h' : Kd.C Kd.string w A' l.length l) (hc' : l.length ≤ c') :
  Calls Try.prog 50 #[.slice A (l ++ [sh]).length c, .slice A' l.length c'] w fun e w' => e = .returned (.bool true) ∧ Below w.heap.size w w' :=
 (gatehouselaw11_asLong.calls (l.length + 2) A c (l ++ [sh]) A' c' l true w h hc h' hc' (asLong_true l hl)).mono (fun _ _ hh => ⟨hh.1, hh.2.below⟩)
theorem rd59_app {l m : List S108} {i : Nat} (h : i < l.length) : rd_T108 (l ++ m) (i : Int) = rd_T108 l (i : Int) := by
 simp [rd_T108, List.getD_eq_getElem?_getD, List.getElem?_append_left h]
theorem asPairs_true (l : List S108) (hl : l.length ≤ 1048576) : gatehouselaw11_asPairs.f (l.length + 2) (l ++ [⟨sh, e0⟩]) l = some true := by
 have go : ∀ (n i : Nat), i + n = l.length → ∀ q, n < q → gatehouselaw11_asPairs.l0 q (l ++ [⟨sh, e0⟩]) l (i : Int) = some true := by
  intro n
  induction n with
  | zero =>
   intro i hi q hq
   obtain ⟨q, rfl⟩ : ∃ m, q = m + 1 := ⟨q - 1, by omega⟩
   simp only [gatehouselaw11_asPairs.l0]
   rw [if_neg (by omega)]
  | succ n ih =>
   intro i hi q hq
   obtain ⟨q, rfl⟩ : ∃ m, q = m + 1 := ⟨q - 1, by omega⟩
   have hw : wrap64 ((i : Int) + 1) = ((i + 1 : Nat) : Int) := by unfold wrap64; omega
   simp only [gatehouselaw11_asPairs.l0]
   rw [if_pos (by omega), if_pos (by omega), if_pos (by simp; omega), rd59_app (by omega), if_neg (by simp), hw]
   exact ih (i + 1) (by omega) q (by omega)
 have hw : wrap64 ((l.length : Int) + 1) = ((l.length + 1 : Nat) : Int) := by unfold wrap64; omega
 have hr : rd_T108 (l ++ [⟨sh, e0⟩]) (l.length : Int) = ⟨sh, e0⟩ := by simp [rd_T108, List.getD_eq_getElem?_getD]
 unfold gatehouselaw11_asPairs.f
 rw [if_pos (by rw [hw]; simp), if_pos (by omega), if_pos (by simp; omega), hr]
 have hb : (!((sh.toList) == ([35] : List UInt8)) || (!((e0.toList) == ([] : List UInt8)))) = false := by kernel_rfl
 show gatehouselaw11_asPairs.j0 (l.length + 1 + 1) (l ++ [⟨sh, e0⟩]) l (!((sh.toList) == ([35] : List UInt8)) || (!((e0.toList) == ([] : List UInt8)))) = some true
 rw [hb]
 simp only [gatehouselaw11_asPairs.j0]
 rw [if_neg (by simp)]
 exact go l.length 0 (by omega) _ (by omega)
theorem asPairs_go (A A' : Option Addr) (c c' : Nat) (l : List S108) (w : World) (hl : l.length ≤ 1048576) (h : Kd.C k108 w A (l ++ ([⟨sh, e0⟩] : List S108)).length (l ++ ([⟨sh, e0⟩] : List S108))) (hc : (l ++ ([⟨sh, e0⟩] : List S108)).length ≤ c) (h' : Kd.C k108 w A' l.length l) (hc' : l.length ≤ c') :
  Calls Try.prog 51 #[.slice A (l ++ ([⟨sh, e0⟩] : List S108)).length c, .slice A' l.length c'] w fun e w' => e = .returned (.bool true) ∧ Below w.heap.size w w' :=
 (gatehouselaw11_asPairs.calls (l.length + 2) A c (l ++ ([⟨sh, e0⟩] : List S108)) A' c' l true w h hc h' hc' (asPairs_true l hl)).mono (fun _ _ hh => ⟨hh.1, hh.2.below⟩)
theorem equals_go (x : Nat) (w : World) : Calls Try.prog 52 #[.float .f64 x, .float .f64 x] w fun e w' => e = .returned (.bool true) ∧ Below w.heap.size w w' :=
 (gatehouselaw11_equals.calls x x true w (by
  unfold gatehouselaw11_equals.f
  by_cases h : feq x x = true
  ·rw [if_pos h]
  ·rw [if_neg h]
   have h2 : fne x x = true := by
    unfold feq at h
    unfold fne
    simpa using h
   rw [if_pos h2, h2])).mono (fun _ _ hh => ⟨hh.1, hh.2.below⟩)
end Go.Proofs.Ythaiodklfoegiaa.QUntP
