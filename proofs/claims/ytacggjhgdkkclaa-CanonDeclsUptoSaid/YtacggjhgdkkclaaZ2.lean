/- Of this session's texts, what the row uses: Flt, PGx0, KBase, KPolicy, KRoomB, KApp, PGx7, PGx8. -/
import Derived.Test.YtacggjhgdkkclaaZ1
import Derived.Test.YtacggjhgdkkclaaProg
import Derived.Below
import Derived.Deep.Draws
import Derived.Deep.AppendLies
import Derived.Maps.AppendAt
import Derived.OwnWalk
import Derived.Laws.BytesArg
import Derived.Laws.MakeOwn
import Derived.Laws.OwnMore
import Derived.Deep.OwnRows
import Derived.Tactics
import Derived.Lib.ConvBytes
import Derived.Laws.Slices
import Derived.WalkKit
import Derived.KernelRfl
import Derived.RowKit3
import Derived.Deep.LoopGhost
import Derived.Deep.QuietTactic
import Derived.BigQuiet
import Derived.WideLaws
import Derived.Deep.DeepCutAuto
import Derived.Deep.CutBlock
import Derived.Deep.RegionHeld3
import Derived.Laws.Rows
import Derived.Lib.AppendStr
import Derived.ArgAppend
import Derived.Laws.IdiomCopy
import Derived.OrdersHeld
import Derived.Laws.BitsLemmas
import Derived.RowKit
import Derived.Maps.Keyed
import Derived.Maps.Own
import Derived.Laws.CopyRow
import Derived.RegionTactic
import Derived.BigRegion
import Derived.Deep.RegionWith
import Derived.DeepKeys5
import Derived.ChangeSlices
import Derived.Carry
import Derived.Outline
import Derived.Deep.DeepMust
/- Floats as the walks of this seat have them: float64 by its bits; the six comparisons by name. -/
namespace Go.Proofs.YtacggjhgdkkclaaF
open Go.RowKit Go.Proofs.YtacggjhgdkkclaaW.PrintWords
def kflt : Kd Nat := Kd.scalar (Value.float .f64) (fun _ => rfl)
def feq (x y : Nat) : Bool := FloatKind.f64.format.order x y == some .eq
def fne (x y : Nat) : Bool := FloatKind.f64.format.order x y != some .eq
def flt_lt (x y : Nat) : Bool := FloatKind.f64.format.order x y == some .lt
def flt_le (x y : Nat) : Bool := FloatKind.f64.format.order x y == some .lt || FloatKind.f64.format.order x y == some .eq
def flt_gt (x y : Nat) : Bool := FloatKind.f64.format.order x y == some .gt
def flt_ge (x y : Nat) : Bool := FloatKind.f64.format.order x y == some .gt || FloatKind.f64.format.order x y == some .eq
theorem run_feq (t : TypeId) (a b : Nat) : binOp .eql t (.float .f64 a) (.float .f64 b) = pure (.bool (feq a b)) := by simp [binOp, Op.floatCmp, feq]
theorem run_fne (t : TypeId) (a b : Nat) : binOp .neq t (.float .f64 a) (.float .f64 b) = pure (.bool (fne a b)) := by simp [binOp, Op.floatCmp, fne]
theorem run_flt_lt (t : TypeId) (a b : Nat) : binOp .lss t (.float .f64 a) (.float .f64 b) = pure (.bool (flt_lt a b)) := by simp [binOp, Op.floatCmp, flt_lt]
theorem run_flt_le (t : TypeId) (a b : Nat) : binOp .leq t (.float .f64 a) (.float .f64 b) = pure (.bool (flt_le a b)) := by simp [binOp, Op.floatCmp, flt_le]
theorem run_flt_gt (t : TypeId) (a b : Nat) : binOp .gtr t (.float .f64 a) (.float .f64 b) = pure (.bool (flt_gt a b)) := by simp [binOp, Op.floatCmp, flt_gt]
theorem run_flt_ge (t : TypeId) (a b : Nat) : binOp .geq t (.float .f64 a) (.float .f64 b) = pure (.bool (flt_ge a b)) := by simp [binOp, Op.floatCmp, flt_ge]
end Go.Proofs.YtacggjhgdkkclaaF
namespace Go.Proofs.Ytacggjhgdkkclaa.PG
open Go.Proofs.YtacggjhgdkkclaaF
attribute [local go_sem high] run_feq run_fne run_flt_lt run_flt_le run_flt_gt run_flt_ge
open Go.RowKit Go.Proofs.YtacggjhgdkkclaaW.PrintWords Go.Proofs.YtacggjhgdkkclaaW.PrintLast Go.Proofs.YtacggjhgdkkclaaW.PrintMore
attribute [local go_sem] max2_int min2_int max_two min_two max_three min_three max_four min_four   -- for this text's walks alone
set_option linter.unusedVariables false
set_option linter.unusedSimpArgs false
def errW : Option Int → Value
  | none => .nilIface
  | some c => .iface 0 (.int .i64 c)
theorem errW_none : errW none = .nilIface := rfl
theorem errW_some (c : Int) : errW (some c) = .iface 0 (.int .i64 c) := rfl
theorem info9 : (Try.prog.info? 9).map (fun i => (i.zero, i.size, i.bytes)) = some (some (.string ⟨#[]⟩), 1, 16) := by kernel_rfl
theorem info22 : (Try.prog.info? 22).map (fun i => (i.zero, i.size, i.bytes)) = some (some (.slice none 0 0), 1, 24) := by kernel_rfl
theorem info42 : (Try.prog.info? 42).map (fun i => (i.zero, i.size, i.bytes)) = some (some (.agg #[(.string ⟨#[]⟩), (.float .f64 0)]), 2, 24) := by kernel_rfl
theorem info44 : (Try.prog.info? 44).map (fun i => (i.zero, i.size, i.bytes)) = some (some (.agg #[(.string ⟨#[]⟩), (.int .i64 0), (.int .i64 0)]), 3, 32) := by kernel_rfl
theorem info47 : (Try.prog.info? 47).map (fun i => (i.zero, i.size, i.bytes)) = some (some (.agg #[(.int .i8 0), (.int .i64 0), (.int .i64 0), (.string ⟨#[]⟩), (.int .i64 0), (.int .i64 0), (.string ⟨#[]⟩), (.int .i64 0), (.int .i64 0), (.slice none 0 0), (.bool false), (.int .i8 0), (.float .f64 0)]), 13, 128) := by kernel_rfl
theorem info59 : (Try.prog.info? 59).map (fun i => (i.zero, i.size, i.bytes)) = some (some (.agg #[(.string ⟨#[]⟩), (.string ⟨#[]⟩)]), 2, 32) := by kernel_rfl
-- the values' own types
/-! #### struct type 44 -/
structure S44 where
  f0 : ByteArray
  f1 : Int
  f2 : Int
def z44 : S44 := ⟨(⟨#[]⟩ : ByteArray), (0 : Int), (0 : Int)⟩
def k44 : Kd S44 := Kd.iso (Kd.pair Kd.string (Kd.pair (Kd.int .i64) (Kd.int .i64))) (fun x : S44 => (x.f0, x.f1, x.f2))
theorem k44_open {w : World} {x : S44} {cs : List Value} (h : k44.K w x cs) : cs = [.string x.f0, .int .i64 x.f1, .int .i64 x.f2] := by
  obtain ⟨_, _, rfl, rfl, ⟨_, _, rfl, rfl, rfl⟩⟩ := h
  exact rfl
theorem k44_openM {w : World} {base : Nat} {ok : Nat → Prop} {x : S44} {cs : List Value} (h : k44.M w base ok x cs) : cs = [.string x.f0, .int .i64 x.f1, .int .i64 x.f2] := by
  obtain ⟨_, _, rfl, rfl, ⟨_, _, rfl, rfl, rfl⟩⟩ := h
  exact rfl
theorem k44_mk (w : World) (x : S44)  : k44.K w x [.string x.f0, .int .i64 x.f1, .int .i64 x.f2] := ⟨[.string x.f0], [.int .i64 x.f1, .int .i64 x.f2], rfl, rfl, ⟨[.int .i64 x.f1], [.int .i64 x.f2], rfl, rfl, rfl⟩⟩
theorem k44_mkM (w : World) (base : Nat) (ok : Nat → Prop) (x : S44)  : k44.M w base ok x [.string x.f0, .int .i64 x.f1, .int .i64 x.f2] := ⟨[.string x.f0], [.int .i64 x.f1, .int .i64 x.f2], rfl, rfl, ⟨[.int .i64 x.f1], [.int .i64 x.f2], rfl, rfl, rfl⟩⟩
def rd_T44 (xs : List S44) (i : Int) : S44 := xs.getD i.toNat z44
theorem at_T44 {w : World} {A : Option Addr} {n : Nat} {xs : List S44} (h : Kd.C k44 w A n xs) (i : Int) (h0 : 0 ≤ i) (h1 : i < n) : ∃ ad , A = some ad ∧ w.cell? (ad.add (i.toNat * 3)) = some (.string (rd_T44 xs i).f0) ∧ w.cell? ⟨(ad.add (i.toNat * 3)).block, (ad.add (i.toNat * 3)).off + 1, none⟩ = some (.int .i64 (rd_T44 xs i).f1) ∧ w.cell? ⟨(ad.add (i.toNat * 3)).block, (ad.add (i.toNat * 3)).off + 2, none⟩ = some (.int .i64 (rd_T44 xs i).f2) := by
  obtain ⟨ad, c, e, _, hK, hc0⟩ := Kd.C_get h z44 i h0 h1
  have hc : ∀ j u, c[j]? = some u → w.cell? (ad.add (i.toNat * 3 + j)) = some u := hc0
  obtain rfl := k44_open hK
  exact ⟨ad, e, hc 0 _ rfl, by rw [← add_field _ _ 1 (by omega)]; exact hc 1 _ rfl, by rw [← add_field _ _ 2 (by omega)]; exact hc 2 _ rfl⟩
/-! #### struct type 47 -/
structure S47 where
  f0 : Int
  f1 : Int
  f2 : Int
  f3 : S44
  f4 : S44
  f5 : (List S44)
  f6 : Bool
  f7 : Int
  f8 : Nat
def z47 : S47 := ⟨(0 : Int), (0 : Int), (0 : Int), z44, z44, ([] : List S44), false, (0 : Int), (0 : Nat)⟩
def k47 : Kd S47 := Kd.iso (Kd.pair (Kd.int .i8) (Kd.pair (Kd.int .i64) (Kd.pair (Kd.int .i64) (Kd.pair k44 (Kd.pair k44 (Kd.pair (Kd.slice 44 k44) (Kd.pair Kd.bool (Kd.pair (Kd.int .i8) kflt)))))))) (fun x : S47 => (x.f0, x.f1, x.f2, x.f3, x.f4, x.f5, x.f6, x.f7, x.f8))
theorem k47_open {w : World} {x : S47} {cs : List Value} (h : k47.K w x cs) : ∃ A9 c9, cs = [.int .i8 x.f0, .int .i64 x.f1, .int .i64 x.f2, .string x.f3.f0, .int .i64 x.f3.f1, .int .i64 x.f3.f2, .string x.f4.f0, .int .i64 x.f4.f1, .int .i64 x.f4.f2, .slice A9 x.f5.length c9, .bool x.f6, .int .i8 x.f7, .float .f64 x.f8] ∧ x.f5.length ≤ c9 ∧ k44.C w A9 x.f5.length x.f5 := by
  obtain ⟨_, _, rfl, rfl, ⟨_, _, rfl, rfl, ⟨_, _, rfl, rfl, ⟨_, _, rfl, s3, ⟨_, _, rfl, s6, ⟨_, _, rfl, ⟨A9, c9, rfl, l9, g9⟩, ⟨_, _, rfl, rfl, ⟨_, _, rfl, rfl, rfl⟩⟩⟩⟩⟩⟩⟩⟩ := h
  obtain rfl := k44_open s3
  obtain rfl := k44_open s6
  exact ⟨A9, c9, rfl, l9, g9⟩
theorem k47_openM {w : World} {base : Nat} {ok : Nat → Prop} {x : S47} {cs : List Value} (h : k47.M w base ok x cs) : ∃ v9, cs = [.int .i8 x.f0, .int .i64 x.f1, .int .i64 x.f2, .string x.f3.f0, .int .i64 x.f3.f1, .int .i64 x.f3.f2, .string x.f4.f0, .int .i64 x.f4.f1, .int .i64 x.f4.f2, v9, .bool x.f6, .int .i8 x.f7, .float .f64 x.f8] ∧ k44.R 44 w base ok v9 x.f5 := by
  obtain ⟨_, _, rfl, rfl, ⟨_, _, rfl, rfl, ⟨_, _, rfl, rfl, ⟨_, _, rfl, s3, ⟨_, _, rfl, s6, ⟨_, _, rfl, ⟨v9, rfl, g9⟩, ⟨_, _, rfl, rfl, ⟨_, _, rfl, rfl, rfl⟩⟩⟩⟩⟩⟩⟩⟩ := h
  obtain rfl := k44_openM s3
  obtain rfl := k44_openM s6
  exact ⟨v9, rfl, g9⟩
theorem k47_mk (w : World) (x : S47) {A9 : Option Addr} {c9 : Nat} (l9 : x.f5.length ≤ c9) (g9 : k44.C w A9 x.f5.length x.f5) : k47.K w x [.int .i8 x.f0, .int .i64 x.f1, .int .i64 x.f2, .string x.f3.f0, .int .i64 x.f3.f1, .int .i64 x.f3.f2, .string x.f4.f0, .int .i64 x.f4.f1, .int .i64 x.f4.f2, .slice A9 x.f5.length c9, .bool x.f6, .int .i8 x.f7, .float .f64 x.f8] := ⟨[.int .i8 x.f0], [.int .i64 x.f1, .int .i64 x.f2, .string x.f3.f0, .int .i64 x.f3.f1, .int .i64 x.f3.f2, .string x.f4.f0, .int .i64 x.f4.f1, .int .i64 x.f4.f2, .slice A9 x.f5.length c9, .bool x.f6, .int .i8 x.f7, .float .f64 x.f8], rfl, rfl, ⟨[.int .i64 x.f1], [.int .i64 x.f2, .string x.f3.f0, .int .i64 x.f3.f1, .int .i64 x.f3.f2, .string x.f4.f0, .int .i64 x.f4.f1, .int .i64 x.f4.f2, .slice A9 x.f5.length c9, .bool x.f6, .int .i8 x.f7, .float .f64 x.f8], rfl, rfl, ⟨[.int .i64 x.f2], [.string x.f3.f0, .int .i64 x.f3.f1, .int .i64 x.f3.f2, .string x.f4.f0, .int .i64 x.f4.f1, .int .i64 x.f4.f2, .slice A9 x.f5.length c9, .bool x.f6, .int .i8 x.f7, .float .f64 x.f8], rfl, rfl, ⟨[.string x.f3.f0, .int .i64 x.f3.f1, .int .i64 x.f3.f2], [.string x.f4.f0, .int .i64 x.f4.f1, .int .i64 x.f4.f2, .slice A9 x.f5.length c9, .bool x.f6, .int .i8 x.f7, .float .f64 x.f8], rfl, (k44_mk w x.f3 ), ⟨[.string x.f4.f0, .int .i64 x.f4.f1, .int .i64 x.f4.f2], [.slice A9 x.f5.length c9, .bool x.f6, .int .i8 x.f7, .float .f64 x.f8], rfl, (k44_mk w x.f4 ), ⟨[.slice A9 x.f5.length c9], [.bool x.f6, .int .i8 x.f7, .float .f64 x.f8], rfl, ⟨A9, c9, rfl, l9, g9⟩, ⟨[.bool x.f6], [.int .i8 x.f7, .float .f64 x.f8], rfl, rfl, ⟨[.int .i8 x.f7], [.float .f64 x.f8], rfl, rfl, rfl⟩⟩⟩⟩⟩⟩⟩⟩
theorem k47_mkM (w : World) (base : Nat) (ok : Nat → Prop) (x : S47) {v9 : Value} (g9 : k44.R 44 w base ok v9 x.f5) : k47.M w base ok x [.int .i8 x.f0, .int .i64 x.f1, .int .i64 x.f2, .string x.f3.f0, .int .i64 x.f3.f1, .int .i64 x.f3.f2, .string x.f4.f0, .int .i64 x.f4.f1, .int .i64 x.f4.f2, v9, .bool x.f6, .int .i8 x.f7, .float .f64 x.f8] := ⟨[.int .i8 x.f0], [.int .i64 x.f1, .int .i64 x.f2, .string x.f3.f0, .int .i64 x.f3.f1, .int .i64 x.f3.f2, .string x.f4.f0, .int .i64 x.f4.f1, .int .i64 x.f4.f2, v9, .bool x.f6, .int .i8 x.f7, .float .f64 x.f8], rfl, rfl, ⟨[.int .i64 x.f1], [.int .i64 x.f2, .string x.f3.f0, .int .i64 x.f3.f1, .int .i64 x.f3.f2, .string x.f4.f0, .int .i64 x.f4.f1, .int .i64 x.f4.f2, v9, .bool x.f6, .int .i8 x.f7, .float .f64 x.f8], rfl, rfl, ⟨[.int .i64 x.f2], [.string x.f3.f0, .int .i64 x.f3.f1, .int .i64 x.f3.f2, .string x.f4.f0, .int .i64 x.f4.f1, .int .i64 x.f4.f2, v9, .bool x.f6, .int .i8 x.f7, .float .f64 x.f8], rfl, rfl, ⟨[.string x.f3.f0, .int .i64 x.f3.f1, .int .i64 x.f3.f2], [.string x.f4.f0, .int .i64 x.f4.f1, .int .i64 x.f4.f2, v9, .bool x.f6, .int .i8 x.f7, .float .f64 x.f8], rfl, (k44_mkM w base ok x.f3 ), ⟨[.string x.f4.f0, .int .i64 x.f4.f1, .int .i64 x.f4.f2], [v9, .bool x.f6, .int .i8 x.f7, .float .f64 x.f8], rfl, (k44_mkM w base ok x.f4 ), ⟨[v9], [.bool x.f6, .int .i8 x.f7, .float .f64 x.f8], rfl, ⟨v9, rfl, g9⟩, ⟨[.bool x.f6], [.int .i8 x.f7, .float .f64 x.f8], rfl, rfl, ⟨[.int .i8 x.f7], [.float .f64 x.f8], rfl, rfl, rfl⟩⟩⟩⟩⟩⟩⟩⟩
theorem k47_openF {W : World} {ok : Nat → Prop} {x : S47} {cs : List Value} (h : Kd.FK k47 W ok x cs) : ∃ A9 c9, cs = [.int .i8 x.f0, .int .i64 x.f1, .int .i64 x.f2, .string x.f3.f0, .int .i64 x.f3.f1, .int .i64 x.f3.f2, .string x.f4.f0, .int .i64 x.f4.f1, .int .i64 x.f4.f2, .slice A9 x.f5.length c9, .bool x.f6, .int .i8 x.f7, .float .f64 x.f8] ∧ x.f5.length ≤ c9 ∧ Kd.F k44 W ok A9 x.f5.length x.f5 := by
  obtain ⟨A9, c9, rfl, l9, _⟩ := k47_open (Kd.FK_now h)
  exact ⟨A9, c9, rfl, l9, (fun W' hW => by obtain ⟨A9_, c9_, he, l9_, g9_⟩ := k47_open (h W' hW); injection (Option.some.inj (show some (Value.slice A9 x.f5.length c9) = some (Value.slice A9_ x.f5.length c9_) from congrArg (fun l => l[9]?) he)) with ha_ _ _; rw [ha_]; exact g9_)⟩
theorem k47_mkF (W : World) (ok : Nat → Prop) (x : S47) {A9 : Option Addr} {c9 : Nat} (l9 : x.f5.length ≤ c9) (g9 : Kd.F k44 W ok A9 x.f5.length x.f5) : Kd.FK k47 W ok x [.int .i8 x.f0, .int .i64 x.f1, .int .i64 x.f2, .string x.f3.f0, .int .i64 x.f3.f1, .int .i64 x.f3.f2, .string x.f4.f0, .int .i64 x.f4.f1, .int .i64 x.f4.f2, .slice A9 x.f5.length c9, .bool x.f6, .int .i8 x.f7, .float .f64 x.f8] := fun W2 hW => k47_mk W2 x l9 (g9 W2 hW)
def rd_T47 (xs : List S47) (i : Int) : S47 := xs.getD i.toNat z47
theorem at_T47 {w : World} {A : Option Addr} {n : Nat} {xs : List S47} (h : Kd.C k47 w A n xs) (i : Int) (h0 : 0 ≤ i) (h1 : i < n) : ∃ ad A9 c9, A = some ad ∧ w.cell? (ad.add (i.toNat * 13)) = some (.int .i8 (rd_T47 xs i).f0) ∧ w.cell? ⟨(ad.add (i.toNat * 13)).block, (ad.add (i.toNat * 13)).off + 1, none⟩ = some (.int .i64 (rd_T47 xs i).f1) ∧ w.cell? ⟨(ad.add (i.toNat * 13)).block, (ad.add (i.toNat * 13)).off + 2, none⟩ = some (.int .i64 (rd_T47 xs i).f2) ∧ w.cell? ⟨(ad.add (i.toNat * 13)).block, (ad.add (i.toNat * 13)).off + 3, none⟩ = some (.string (rd_T47 xs i).f3.f0) ∧ w.cell? ⟨(ad.add (i.toNat * 13)).block, (ad.add (i.toNat * 13)).off + 4, none⟩ = some (.int .i64 (rd_T47 xs i).f3.f1) ∧ w.cell? ⟨(ad.add (i.toNat * 13)).block, (ad.add (i.toNat * 13)).off + 5, none⟩ = some (.int .i64 (rd_T47 xs i).f3.f2) ∧ w.cell? ⟨(ad.add (i.toNat * 13)).block, (ad.add (i.toNat * 13)).off + 6, none⟩ = some (.string (rd_T47 xs i).f4.f0) ∧ w.cell? ⟨(ad.add (i.toNat * 13)).block, (ad.add (i.toNat * 13)).off + 7, none⟩ = some (.int .i64 (rd_T47 xs i).f4.f1) ∧ w.cell? ⟨(ad.add (i.toNat * 13)).block, (ad.add (i.toNat * 13)).off + 8, none⟩ = some (.int .i64 (rd_T47 xs i).f4.f2) ∧ w.cell? ⟨(ad.add (i.toNat * 13)).block, (ad.add (i.toNat * 13)).off + 9, none⟩ = some (.slice A9 (rd_T47 xs i).f5.length c9) ∧ w.cell? ⟨(ad.add (i.toNat * 13)).block, (ad.add (i.toNat * 13)).off + 10, none⟩ = some (.bool (rd_T47 xs i).f6) ∧ w.cell? ⟨(ad.add (i.toNat * 13)).block, (ad.add (i.toNat * 13)).off + 11, none⟩ = some (.int .i8 (rd_T47 xs i).f7) ∧ w.cell? ⟨(ad.add (i.toNat * 13)).block, (ad.add (i.toNat * 13)).off + 12, none⟩ = some (.float .f64 (rd_T47 xs i).f8) ∧ (rd_T47 xs i).f5.length ≤ c9 ∧ k44.C w A9 (rd_T47 xs i).f5.length (rd_T47 xs i).f5 := by
  obtain ⟨ad, c, e, _, hK, hc0⟩ := Kd.C_get h z47 i h0 h1
  have hc : ∀ j u, c[j]? = some u → w.cell? (ad.add (i.toNat * 13 + j)) = some u := hc0
  obtain ⟨A9, c9, rfl, l9, g9⟩ := k47_open hK
  exact ⟨ad, A9, c9, e, hc 0 _ rfl, by rw [← add_field _ _ 1 (by omega)]; exact hc 1 _ rfl, by rw [← add_field _ _ 2 (by omega)]; exact hc 2 _ rfl, by rw [← add_field _ _ 3 (by omega)]; exact hc 3 _ rfl, by rw [← add_field _ _ 4 (by omega)]; exact hc 4 _ rfl, by rw [← add_field _ _ 5 (by omega)]; exact hc 5 _ rfl, by rw [← add_field _ _ 6 (by omega)]; exact hc 6 _ rfl, by rw [← add_field _ _ 7 (by omega)]; exact hc 7 _ rfl, by rw [← add_field _ _ 8 (by omega)]; exact hc 8 _ rfl, by rw [← add_field _ _ 9 (by omega)]; exact hc 9 _ rfl, by rw [← add_field _ _ 10 (by omega)]; exact hc 10 _ rfl, by rw [← add_field _ _ 11 (by omega)]; exact hc 11 _ rfl, by rw [← add_field _ _ 12 (by omega)]; exact hc 12 _ rfl, l9, g9⟩
/-! #### struct type 59 -/
structure S59 where
  f0 : ByteArray
  f1 : ByteArray
def z59 : S59 := ⟨(⟨#[]⟩ : ByteArray), (⟨#[]⟩ : ByteArray)⟩
def k59 : Kd S59 := Kd.iso (Kd.pair Kd.string Kd.string) (fun x : S59 => (x.f0, x.f1))
theorem k59_open {w : World} {x : S59} {cs : List Value} (h : k59.K w x cs) : cs = [.string x.f0, .string x.f1] := by
  obtain ⟨_, _, rfl, rfl, rfl⟩ := h
  exact rfl
theorem k59_mkM (w : World) (base : Nat) (ok : Nat → Prop) (x : S59)  : k59.M w base ok x [.string x.f0, .string x.f1] := ⟨[.string x.f0], [.string x.f1], rfl, rfl, rfl⟩
def rd_T59 (xs : List S59) (i : Int) : S59 := xs.getD i.toNat z59
theorem at_T59 {w : World} {A : Option Addr} {n : Nat} {xs : List S59} (h : Kd.C k59 w A n xs) (i : Int) (h0 : 0 ≤ i) (h1 : i < n) : ∃ ad , A = some ad ∧ w.cell? (ad.add (i.toNat * 2)) = some (.string (rd_T59 xs i).f0) ∧ w.cell? ⟨(ad.add (i.toNat * 2)).block, (ad.add (i.toNat * 2)).off + 1, none⟩ = some (.string (rd_T59 xs i).f1) := by
  obtain ⟨ad, c, e, _, hK, hc0⟩ := Kd.C_get h z59 i h0 h1
  have hc : ∀ j u, c[j]? = some u → w.cell? (ad.add (i.toNat * 2 + j)) = some u := hc0
  obtain rfl := k59_open hK
  exact ⟨ad, e, hc 0 _ rfl, by rw [← add_field _ _ 1 (by omega)]; exact hc 1 _ rfl⟩
/-! #### struct type 42 -/
structure S42 where
  f0 : ByteArray
  f1 : Nat
def z42 : S42 := ⟨(⟨#[]⟩ : ByteArray), (0 : Nat)⟩
def k42 : Kd S42 := Kd.iso (Kd.pair Kd.string kflt) (fun x : S42 => (x.f0, x.f1))
theorem k42_open {w : World} {x : S42} {cs : List Value} (h : k42.K w x cs) : cs = [.string x.f0, .float .f64 x.f1] := by
  obtain ⟨_, _, rfl, rfl, rfl⟩ := h
  exact rfl
theorem k42_mkM (w : World) (base : Nat) (ok : Nat → Prop) (x : S42)  : k42.M w base ok x [.string x.f0, .float .f64 x.f1] := ⟨[.string x.f0], [.float .f64 x.f1], rfl, rfl, rfl⟩
def rd_T42 (xs : List S42) (i : Int) : S42 := xs.getD i.toNat z42
theorem at_T42 {w : World} {A : Option Addr} {n : Nat} {xs : List S42} (h : Kd.C k42 w A n xs) (i : Int) (h0 : 0 ≤ i) (h1 : i < n) : ∃ ad , A = some ad ∧ w.cell? (ad.add (i.toNat * 2)) = some (.string (rd_T42 xs i).f0) ∧ w.cell? ⟨(ad.add (i.toNat * 2)).block, (ad.add (i.toNat * 2)).off + 1, none⟩ = some (.float .f64 (rd_T42 xs i).f1) := by
  obtain ⟨ad, c, e, _, hK, hc0⟩ := Kd.C_get h z42 i h0 h1
  have hc : ∀ j u, c[j]? = some u → w.cell? (ad.add (i.toNat * 2 + j)) = some u := hc0
  obtain rfl := k42_open hK
  exact ⟨ad, e, hc 0 _ rfl, by rw [← add_field _ _ 1 (by omega)]; exact hc 1 _ rfl⟩
/-! #### struct type 51 -/
structure S51 where
  f0 : Bool
  f1 : ByteArray
  f2 : ByteArray
  f3 : (List ByteArray)
  f4 : Int
  f5 : Nat
def z51 : S51 := ⟨false, (⟨#[]⟩ : ByteArray), (⟨#[]⟩ : ByteArray), ([] : List ByteArray), (0 : Int), (0 : Nat)⟩
def k51 : Kd S51 := Kd.iso (Kd.pair Kd.bool (Kd.pair Kd.string (Kd.pair Kd.string (Kd.pair (Kd.slice 9 Kd.string) (Kd.pair (Kd.int .i8) kflt))))) (fun x : S51 => (x.f0, x.f1, x.f2, x.f3, x.f4, x.f5))
theorem k51_open {w : World} {x : S51} {cs : List Value} (h : k51.K w x cs) : ∃ A3 c3, cs = [.bool x.f0, .string x.f1, .string x.f2, .slice A3 x.f3.length c3, .int .i8 x.f4, .float .f64 x.f5] ∧ x.f3.length ≤ c3 ∧ Kd.string.C w A3 x.f3.length x.f3 := by
  obtain ⟨_, _, rfl, rfl, ⟨_, _, rfl, rfl, ⟨_, _, rfl, rfl, ⟨_, _, rfl, ⟨A3, c3, rfl, l3, g3⟩, ⟨_, _, rfl, rfl, rfl⟩⟩⟩⟩⟩ := h
  exact ⟨A3, c3, rfl, l3, g3⟩
theorem k51_mk (w : World) (x : S51) {A3 : Option Addr} {c3 : Nat} (l3 : x.f3.length ≤ c3) (g3 : Kd.string.C w A3 x.f3.length x.f3) : k51.K w x [.bool x.f0, .string x.f1, .string x.f2, .slice A3 x.f3.length c3, .int .i8 x.f4, .float .f64 x.f5] := ⟨[.bool x.f0], [.string x.f1, .string x.f2, .slice A3 x.f3.length c3, .int .i8 x.f4, .float .f64 x.f5], rfl, rfl, ⟨[.string x.f1], [.string x.f2, .slice A3 x.f3.length c3, .int .i8 x.f4, .float .f64 x.f5], rfl, rfl, ⟨[.string x.f2], [.slice A3 x.f3.length c3, .int .i8 x.f4, .float .f64 x.f5], rfl, rfl, ⟨[.slice A3 x.f3.length c3], [.int .i8 x.f4, .float .f64 x.f5], rfl, ⟨A3, c3, rfl, l3, g3⟩, ⟨[.int .i8 x.f4], [.float .f64 x.f5], rfl, rfl, rfl⟩⟩⟩⟩⟩
def rd_T51 (xs : List S51) (i : Int) : S51 := xs.getD i.toNat z51
theorem at_T51 {w : World} {A : Option Addr} {n : Nat} {xs : List S51} (h : Kd.C k51 w A n xs) (i : Int) (h0 : 0 ≤ i) (h1 : i < n) : ∃ ad A3 c3, A = some ad ∧ w.cell? (ad.add (i.toNat * 6)) = some (.bool (rd_T51 xs i).f0) ∧ w.cell? ⟨(ad.add (i.toNat * 6)).block, (ad.add (i.toNat * 6)).off + 1, none⟩ = some (.string (rd_T51 xs i).f1) ∧ w.cell? ⟨(ad.add (i.toNat * 6)).block, (ad.add (i.toNat * 6)).off + 2, none⟩ = some (.string (rd_T51 xs i).f2) ∧ w.cell? ⟨(ad.add (i.toNat * 6)).block, (ad.add (i.toNat * 6)).off + 3, none⟩ = some (.slice A3 (rd_T51 xs i).f3.length c3) ∧ w.cell? ⟨(ad.add (i.toNat * 6)).block, (ad.add (i.toNat * 6)).off + 4, none⟩ = some (.int .i8 (rd_T51 xs i).f4) ∧ w.cell? ⟨(ad.add (i.toNat * 6)).block, (ad.add (i.toNat * 6)).off + 5, none⟩ = some (.float .f64 (rd_T51 xs i).f5) ∧ (rd_T51 xs i).f3.length ≤ c3 ∧ Kd.string.C w A3 (rd_T51 xs i).f3.length (rd_T51 xs i).f3 := by
  obtain ⟨ad, c, e, _, hK, hc0⟩ := Kd.C_get h z51 i h0 h1
  have hc : ∀ j u, c[j]? = some u → w.cell? (ad.add (i.toNat * 6 + j)) = some u := hc0
  obtain ⟨A3, c3, rfl, l3, g3⟩ := k51_open hK
  exact ⟨ad, A3, c3, e, hc 0 _ rfl, by rw [← add_field _ _ 1 (by omega)]; exact hc 1 _ rfl, by rw [← add_field _ _ 2 (by omega)]; exact hc 2 _ rfl, by rw [← add_field _ _ 3 (by omega)]; exact hc 3 _ rfl, by rw [← add_field _ _ 4 (by omega)]; exact hc 4 _ rfl, by rw [← add_field _ _ 5 (by omega)]; exact hc 5 _ rfl, l3, g3⟩
/-! #### struct type 53 -/
structure S53 where
  f0 : ByteArray
  f1 : ByteArray
  f2 : ByteArray
def z53 : S53 := ⟨(⟨#[]⟩ : ByteArray), (⟨#[]⟩ : ByteArray), (⟨#[]⟩ : ByteArray)⟩
def k53 : Kd S53 := Kd.iso (Kd.pair Kd.string (Kd.pair Kd.string Kd.string)) (fun x : S53 => (x.f0, x.f1, x.f2))
theorem k53_open {w : World} {x : S53} {cs : List Value} (h : k53.K w x cs) : cs = [.string x.f0, .string x.f1, .string x.f2] := by
  obtain ⟨_, _, rfl, rfl, ⟨_, _, rfl, rfl, rfl⟩⟩ := h
  exact rfl
theorem k53_mkM (w : World) (base : Nat) (ok : Nat → Prop) (x : S53)  : k53.M w base ok x [.string x.f0, .string x.f1, .string x.f2] := ⟨[.string x.f0], [.string x.f1, .string x.f2], rfl, rfl, ⟨[.string x.f1], [.string x.f2], rfl, rfl, rfl⟩⟩
def rd_T53 (xs : List S53) (i : Int) : S53 := xs.getD i.toNat z53
theorem at_T53 {w : World} {A : Option Addr} {n : Nat} {xs : List S53} (h : Kd.C k53 w A n xs) (i : Int) (h0 : 0 ≤ i) (h1 : i < n) : ∃ ad , A = some ad ∧ w.cell? (ad.add (i.toNat * 3)) = some (.string (rd_T53 xs i).f0) ∧ w.cell? ⟨(ad.add (i.toNat * 3)).block, (ad.add (i.toNat * 3)).off + 1, none⟩ = some (.string (rd_T53 xs i).f1) ∧ w.cell? ⟨(ad.add (i.toNat * 3)).block, (ad.add (i.toNat * 3)).off + 2, none⟩ = some (.string (rd_T53 xs i).f2) := by
  obtain ⟨ad, c, e, _, hK, hc0⟩ := Kd.C_get h z53 i h0 h1
  have hc : ∀ j u, c[j]? = some u → w.cell? (ad.add (i.toNat * 3 + j)) = some u := hc0
  obtain rfl := k53_open hK
  exact ⟨ad, e, hc 0 _ rfl, by rw [← add_field _ _ 1 (by omega)]; exact hc 1 _ rfl, by rw [← add_field _ _ 2 (by omega)]; exact hc 2 _ rfl⟩
end Go.Proofs.Ytacggjhgdkkclaa.PG
/- General lemmas (variables in memory, worlds that differ in known blocks), a policy's lists. -/
namespace Go.Proofs.Ytacggjhgdkkclaa.KBase
open Go.RowKit Go.Proofs.YtacggjhgdkkclaaW.PrintWords Go.Proofs.YtacggjhgdkkclaaW.PrintLast Go.Proofs.YtacggjhgdkkclaaW.PrintMore Go.Maps
open Go.Proofs.Ytacggjhgdkkclaa Go.Proofs.Ytacggjhgdkkclaa.PG Go.Proofs.YtacggjhgdkkclaaF
set_option linter.unusedSimpArgs false
section
variable {P : Program} {ops : Array Oper} {rest : List Oper} {o o1 o2 : Oper} {a : Act} {w : World} {Q : Exit → Act → World → Prop}
def aggDesc : TypeDesc → Bool
  | .struct _ | .array _ _ => true
  | _ => false
theorem run_loadVar_at (ty : TypeId) (a0 : Addr) (cs : List Value) (hc : ∀ j v, cs[j]? = some v → w.cell? (a0.add j) = some v) (d : TypeDesc) (hu : P.underlying ty = some d) (hd : aggDesc d = true)
    (hi : (P.info? ty).map (·.size) = some cs.length) : (loadVar ty a0).run P w = .ok (.agg cs.toArray) w := by
  have hl : (loadCells a0 cs.length).run P w = .ok cs.toArray w := run_loadCells_list (P := P) w a0 cs hc
  cases hq : P.info? ty with
  | none => simp [hq] at hi
  | some i =>
    have hs : i.size = cs.length := by simpa [hq] using hi
    have hagg : (isAgg ty).run P w = .ok true w := by
      unfold isAgg
      rw [Sem.run_bind, run_underlying hu w]
      cases d <;> simp_all [aggDesc]
    simp [loadVar, Sem.run_bind, hagg, sizeOf, typeInfo, hq, hs, hl]
theorem wp_load_at (ty : TypeId) (x : Operand) (ho : o.op = .load ty x) (a0 : Addr) (hx : a.eval x = .pointer (some a0)) (cs : List Value) (hc : ∀ j v, cs[j]? = some v → w.cell? (a0.add j) = some v)
    (d : TypeDesc) (hu : P.underlying ty = some d) (hd : aggDesc d = true) (hi : (P.info? ty).map (·.size) = some cs.length) {K : Act → World → Prop} (h : K (a.put o.dst (.agg cs.toArray)) w) : o.wp P a w K Q := by
  unfold Oper.wp execOp
  simp only [ho, hx, Instr.loadAt, Instr.sureAddr, Sem.run_bind, Sem.run_pure, Result.andThen_ok, run_loadVar_at ty a0 cs hc d hu hd hi]
  exact h
theorem wpList_load_at (hgd : o.guard = none) (ty : TypeId) (x : Operand) (ho : o.op = .load ty x) (a0 : Addr) (hx : a.eval x = .pointer (some a0)) (cs : List Value) (hc : ∀ j v, cs[j]? = some v → w.cell? (a0.add j) = some v)
    (d : TypeDesc) (hu : P.underlying ty = some d) (hd : aggDesc d = true) (hi : (P.info? ty).map (·.size) = some cs.length) (h : wpList P ops Q rest (a.put o.dst (.agg cs.toArray)) w) : wpList P ops Q (o :: rest) a w :=
  wpList_plain hgd fun _ hK => wp_load_at ty x ho a0 hx cs hc d hu hd hi (hK _ _ h)
theorem setRow_alloc (w : World) (cur L : Array Value) (t : TypeId) : (w.alloc (.cells cur t)).setRow w.heap.size L = w.alloc (.cells L t) := by
  have : ((w.heap.push (.cells cur t)).modify w.heap.size fun | .cells _ elem frozen => .cells L elem frozen | o => o) = w.heap.push (.cells L t) := by
    apply Array.ext
    · simp
    · intro i h1 h2
      rw [Array.getElem_modify]
      by_cases h : w.heap.size = i
      · subst h; simp
      · rw [if_neg h, Array.getElem_push, Array.getElem_push]
        split
        · rfl
        · rename_i h3; simp at h1; omega
  exact congrArg (fun h => ({ w with heap := h } : World)) this
theorem run_storeVar_new (ty : TypeId) (cur L : Array Value) (hi : (P.info? ty).map (·.size) = some L.size) (hs : cur.size = L.size) (h1 : ∀ v ∈ L.toList, v.oneCell' = true) :
    (storeVar ty ⟨w.heap.size, 0, none⟩ (.agg L)).run P (w.alloc (.cells cur ty)) = .ok () (w.alloc (.cells L ty)) := by
  cases hq : P.info? ty with
  | none => simp [hq] at hi
  | some i =>
    have hsz : i.size = L.size := by simpa [hq] using hi
    have hg : (w.alloc (.cells cur ty)).heap[w.heap.size]? = some (.cells cur ty (0, 0)) := heap_alloc_new w _
    have hst := run_storeCells_at P w.heap.size 0 ty L.toList 0 cur (w.alloc (.cells cur ty)) hg (by simp; omega) h1
    have e : cur.toList.take (0 + 0) ++ L.toList ++ cur.toList.drop (0 + 0 + L.toList.length) = L.toList := by
      simp; omega
    rw [e, Array.toArray_toList, setRow_alloc] at hst
    simp [storeVar, sizeOf, typeInfo, hq, Value.cells, hsz, hst]
theorem wpList_alloc_store (hg1 : o1.guard = none) (hg2 : o2.guard = none) (ty : TypeId) (d : Tmp) (x : Operand) (ho1 : o1.op = .alloc ty) (hd1 : o1.dst = some d) (ho2 : o2.op = .store ty (.tmp d) x) (cur L : Array Value) (z : Value)
    (hz : (zeroValue ty).run P w = .ok z w) (hzc : z.cells = cur) (hi : (P.info? ty).map (·.size) = some L.size) (hs : cur.size = L.size) (h1 : ∀ v ∈ L.toList, v.oneCell' = true)
    (hx : (a.put (some d) (.pointer (some ⟨w.heap.size, 0, none⟩))).eval x = .agg L) (hp : (a.put (some d) (.pointer (some ⟨w.heap.size, 0, none⟩))).eval (.tmp d) = .pointer (some ⟨w.heap.size, 0, none⟩))
    (h : wpList P ops Q rest ((a.put (some d) (.pointer (some ⟨w.heap.size, 0, none⟩))).put o2.dst undef) (w.alloc (.cells L ty))) : wpList P ops Q (o1 :: o2 :: rest) a w := by
  rw [← hd1] at hx hp h
  refine wpList_plain hg1 fun K hK => ?_
  have hv : (newVar ty z).run P w = .ok ⟨w.heap.size, 0, none⟩ (w.alloc (.cells cur ty)) := by
    rw [← hzc]; rfl
  unfold Oper.wp execOp
  simp only [ho1, Instr.alloc, Sem.run_bind, hz, Result.andThen_ok, hv, Sem.run_pure]
  refine hK _ _ (wpList_plain hg2 fun K' hK' => ?_)
  unfold Oper.wp execOp
  have hst := run_storeVar_new (P := P) (w := w) ty cur L hi hs h1
  simp only [ho2, hx, hp, Instr.storeAt, Instr.sureAddr, Sem.run_bind, Sem.run_pure, Result.andThen_ok, hst]
  exact hK' _ _ h
end
theorem frozen_of_row {w : World} {g : Nat} {cs : Array Value} {t : TypeId} (h : w.heap[g]? = some (.cells cs t (0, 0))) (i : Nat) : w.frozen? ⟨g, i, none⟩ = false := by simp [World.frozen?, h]
theorem wpList_load_blk {P : Program} {w : World} {ops : Array Oper} {rest : List Oper} {op : Oper} {a : Act} {Q : Exit → Act → World → Prop} (hgd : op.guard = none) (ty : TypeId) (x : Operand) (ho : op.op = .load ty x) (g : Nat) (hx : a.eval x = .pointer (some ⟨g, 0, none⟩))
    (cs : Array Value) (t : TypeId) (hg : w.heap[g]? = some (.cells cs t (0, 0))) (d : TypeDesc) (hu : P.underlying ty = some d) (hd : d.isRow = true) (hi : (P.info? ty).map (·.size) = some cs.size) (h : wpList P ops Q rest (a.put op.dst (.agg cs)) w) : wpList P ops Q (op :: rest) a w := by
  refine wpList_load_mid hgd ty x ho g 0 hx cs.toList d (fun j v hv => ?_) hu hd (by simpa using hi) (by simpa using h)
  rw [cell_of_row _ _ _ _ _ _ hg, Nat.zero_add, ← hv]; simp
def Stays (w : World) (g : Nat) (cs : Array Value) (t : TypeId) : Prop := w.heap[g]? = some (.cells cs t (0, 0))
theorem Stays.below {w w1 : World} {g : Nat} {cs : Array Value} {t : TypeId} (h : Stays w g cs t) (hb : Below w.heap.size w w1) : Stays w1 g cs t := (hb.block _ (Array.getElem?_eq_some_iff.1 h).1).trans h
theorem Stays.cell {w : World} {g : Nat} {cs : Array Value} {t : TypeId} (h : Stays w g cs t) (j : Nat) : w.cell? ⟨g, j, none⟩ = cs[j]? := cell_of_row _ _ _ _ _ _ h
theorem step_run {P : Program} {ops : Array Oper} {oi : Oper} {N : Option Tmp} {a : Act} {w w' : World} {v : Value} {K : Act → World → Prop} {Q : Exit → Act → World → Prop} (hw : Region.wanted oi (yielded ops a.tmps) = true) (hN : oi.dst = N)
    (hrun : (execOp a.eval oi).run P w = .ok (.value v) w') (h : K (a.put N v) w') : if Region.wanted oi (yielded ops a.tmps) = true then Oper.wp P oi a w K Q else K (a.put N undef) w := by
  rw [if_pos hw]
  subst hN
  unfold Oper.wp
  rw [hrun]
  exact h
theorem step_skip {P : Program} {ops : Array Oper} {oi : Oper} {N : Option Tmp} {a : Act} {w w' : World} {K : Act → World → Prop} {Q : Exit → Act → World → Prop} (hw : Region.wanted oi (yielded ops a.tmps) = true) (hN : oi.dst = N)
    (hrun : (execOp a.eval oi).run P w = .ok .skip w') (h : K (a.put N undef) w') : if Region.wanted oi (yielded ops a.tmps) = true then Oper.wp P oi a w K Q else K (a.put N undef) w := by
  rw [if_pos hw]
  subst hN
  unfold Oper.wp
  rw [hrun]
  exact h
/-! ### A variable that is written whole -/
section
variable {w w0 : World} {g g' t t' : Nat} {cs vs : Array Value}
theorem Stays.there (h : Stays w g cs t) : w.there g 0 cs.size := fun j hj => by
  rw [h.cell, Nat.zero_add]
  exact ⟨by simp [hj], frozen_of_row h _⟩
theorem setCells_var (h : Stays w g cs t) (hl : vs.size = cs.size) : Stays (w.setCells g 0 vs.toList) g vs t := by
  obtain ⟨cur, h3, h4, h5⟩ := setCells_row vs.toList 0 w _ h (by simp [hl])
  have hcur : cur = vs := by
    apply Array.ext'
    rw [h5]
    simp [hl]
  rw [hcur] at h3
  exact h3
theorem setCells_stays (h : Stays w g' cs t) (hne : g' ≠ g) (l : List Value) : Stays (w.setCells g 0 l) g' cs t := (setCells_far l 0 g' hne).trans h
theorem setCells_below {B : Nat} (h : Below B w0 w) (hg : B ≤ g) (l : List Value) : Below B w0 (w.setCells g 0 l) := by
  obtain ⟨s1, s2, s3, s4⟩ := setCells_same g l 0 w
  exact ⟨s1.trans h.os, s2.trans h.tape, s3.trans h.output, by rw [s4]; exact h.size, fun k hk => (setCells_far l 0 k (by omega)).trans (h.block k hk)⟩
theorem wpList_store_var {P : Program} {ops : Array Oper} {rest : List Oper} {op : Oper} {a : Act} {Q : Exit → Act → World → Prop} (hgd : op.guard = none) (ty : TypeId) (x y : Operand) (ho : op.op = .store ty x y) (g : Nat) (L : Array Value)
    (hx : a.eval x = .pointer (some ⟨g, 0, none⟩)) (hy : a.eval y = .agg L) (hS : Stays w g cs t) (hl : L.size = cs.size) (hi : (P.info? ty).map (·.size) = some L.size) (h1 : L.all (·.oneCell') = true)
    (h : wpList P ops Q rest (a.put op.dst undef) (w.setCells g 0 L.toList)) : wpList P ops Q (op :: rest) a w :=
  wpList_store_mid hgd ty x y ho g 0 L hx hy (by rw [hl]; exact Stays.there hS) hi h1 h
end
structure PolD where
  acts : List ByteArray
  subs : List S42
  roles : List ByteArray
  objs : List ByteArray
  grps : List ByteArray
  mem : List S59
  inh : List S59
  par : List S59
  wit : List S59
  rules : List S51
  exc : List S53
structure Pol where
  d : PolD
  A0 : Option Addr
  c0 : Nat
  A1 : Option Addr
  c1 : Nat
  A2 : Option Addr
  c2 : Nat
  A3 : Option Addr
  c3 : Nat
  A4 : Option Addr
  c4 : Nat
  A5 : Option Addr
  c5 : Nat
  A6 : Option Addr
  c6 : Nat
  A7 : Option Addr
  c7 : Nat
  A8 : Option Addr
  c8 : Nat
  A9 : Option Addr
  c9 : Nat
  A10 : Option Addr
  c10 : Nat
def Pol.cells (p : Pol) : Array Value := #[.slice p.A0 p.d.acts.length p.c0, .slice p.A1 p.d.subs.length p.c1, .slice p.A2 p.d.roles.length p.c2, .slice p.A3 p.d.objs.length p.c3, .slice p.A4 p.d.grps.length p.c4, .slice p.A5 p.d.mem.length p.c5, .slice p.A6 p.d.inh.length p.c6, .slice p.A7 p.d.par.length p.c7, .slice p.A8 p.d.wit.length p.c8, .slice p.A9 p.d.rules.length p.c9, .slice p.A10 p.d.exc.length p.c10]
structure Pol.In (p : Pol) (w : World) : Prop where
  h0 : Kd.C Kd.string w p.A0 p.d.acts.length p.d.acts
  h1 : Kd.C k42 w p.A1 p.d.subs.length p.d.subs
  h2 : Kd.C Kd.string w p.A2 p.d.roles.length p.d.roles
  h3 : Kd.C Kd.string w p.A3 p.d.objs.length p.d.objs
  h4 : Kd.C Kd.string w p.A4 p.d.grps.length p.d.grps
  h5 : Kd.C k59 w p.A5 p.d.mem.length p.d.mem
  h6 : Kd.C k59 w p.A6 p.d.inh.length p.d.inh
  h7 : Kd.C k59 w p.A7 p.d.par.length p.d.par
  h8 : Kd.C k59 w p.A8 p.d.wit.length p.d.wit
  h9 : Kd.C k51 w p.A9 p.d.rules.length p.d.rules
  h10 : Kd.C k53 w p.A10 p.d.exc.length p.d.exc
  l0 : p.d.acts.length ≤ p.c0
  l1 : p.d.subs.length ≤ p.c1
  l2 : p.d.roles.length ≤ p.c2
  l3 : p.d.objs.length ≤ p.c3
  l4 : p.d.grps.length ≤ p.c4
  l5 : p.d.mem.length ≤ p.c5
  l6 : p.d.inh.length ≤ p.c6
  l7 : p.d.par.length ≤ p.c7
  l8 : p.d.wit.length ≤ p.c8
  l9 : p.d.rules.length ≤ p.c9
  l10 : p.d.exc.length ≤ p.c10
theorem Pol.In.below {p : Pol} {w w1 : World} (h : p.In w) (hb : Below w.heap.size w w1) : p.In w1 :=
  ⟨Kd.C_below h.h0 hb, Kd.C_below h.h1 hb, Kd.C_below h.h2 hb, Kd.C_below h.h3 hb, Kd.C_below h.h4 hb, Kd.C_below h.h5 hb, Kd.C_below h.h6 hb, Kd.C_below h.h7 hb, Kd.C_below h.h8 hb, Kd.C_below h.h9 hb, Kd.C_below h.h10 hb, h.l0, h.l1, h.l2, h.l3, h.l4, h.l5, h.l6, h.l7, h.l8, h.l9, h.l10⟩
structure Same (S : Nat → Prop) (W wr : World) : Prop where
  os : wr.os = W.os
  tape : wr.tape = W.tape
  output : wr.output = W.output
  size : W.heap.size ≤ wr.heap.size
  block : ∀ b, b < W.heap.size → ¬ S b → wr.heap[b]? = W.heap[b]?
namespace Same
variable {S : Nat → Prop} {w W wr w1 : World}
theorem refl (S : Nat → Prop) (W : World) : Same S W W := ⟨rfl, rfl, rfl, Nat.le_refl _, fun _ _ _ => rfl⟩
theorem of_below (h : Below W.heap.size W wr) : Same S W wr := ⟨h.os, h.tape, h.output, h.size, fun b hb _ => h.block b hb⟩
theorem move (h : Same S W wr) (hb : Below wr.heap.size wr w1) : Same S W w1 :=
  ⟨hb.os.trans h.os, hb.tape.trans h.tape, hb.output.trans h.output, Nat.le_trans h.size hb.size, fun b hl hs => (hb.block b (Nat.lt_of_lt_of_le hl h.size)).trans (h.block b hl hs)⟩
theorem grown (h : Same S W wr) {row : Option Nat} (hg : wr.grownBy w1 row) (hr : ∀ k, row = some k → S k ∨ W.heap.size ≤ k) : Same S W w1 :=
  ⟨hg.os.trans h.os, hg.tape.trans h.tape, hg.output.trans h.output, Nat.le_trans h.size hg.size, fun b hl hs => (hg.block b (Nat.lt_of_lt_of_le hl h.size) (fun e => by
    rcases hr b e.symm with h1 | h1
    · exact hs h1
    · omega)).trans (h.block b hl hs)⟩
theorem set (h : Same S W wr) {a : Addr} (ha : S a.block ∨ W.heap.size ≤ a.block) (v : Value) : Same S W (wr.setCell a v) :=
  ⟨h.os, h.tape, h.output, by simpa [World.setCell] using h.size, fun b hl hs => (heap_setCell_other wr a b v (fun e => by
    rcases ha with h1 | h1
    · exact hs (e ▸ h1)
    · omega)).trans (h.block b hl hs)⟩
theorem drew (h : Same S W wr) : Same S W wr.drew := ⟨h.os, h.tape, h.output, h.size, h.block⟩
theorem stays (h : Same S W wr) {g t : Nat} {cs : Array Value} (hs : Stays W g cs t) (hn : ¬ S g) : Stays wr g cs t := (h.block g (Array.getElem?_eq_some_iff.1 hs).1 hn).trans hs
theorem toR (h : Same S W wr) {α : Type} {d : Kd α} {e base : Nat} {ok : Nat → Prop} {v : Value} {xs : List α} (hR : d.R e W base ok v xs) (hok : ∀ k, ok k → ¬ S k) : d.R e wr base ok v xs := Kd.R_step hR (fun k ho hk => h.block k hk (hok k ho))
theorem below (h : Same S W wr) (hb : Below w.heap.size w W) (hS : ∀ k, S k → w.heap.size ≤ k) : Below w.heap.size w wr :=
  ⟨h.os.trans hb.os, h.tape.trans hb.tape, h.output.trans hb.output, Nat.le_trans hb.size h.size, fun b hl => (h.block b (Nat.lt_of_lt_of_le hl hb.size) (fun e => by have := hS b e; omega)).trans (hb.block b hl)⟩
end Same
theorem stays_set {w : World} {g t : Nat} {cs : Array Value} (h : Stays w g cs t) (j : Nat) (v : Value) : Stays (w.setCell ⟨g, j, none⟩ v) g (cs.setIfInBounds j v) t := heap_setCell_same w g j cs t v h
theorem stays_far {w : World} {g t : Nat} {cs : Array Value} (h : Stays w g cs t) {a : Addr} (ha : g ≠ a.block) (v : Value) : Stays (w.setCell a v) g cs t := (heap_setCell_other w a g v ha).trans h
end Go.Proofs.Ytacggjhgdkkclaa.KBase
/- A policy as it is handed in, with how much it bears. -/
namespace Go.Proofs.Ytacggjhgdkkclaa.KPolicy
open Go.ChangeShapes Go.WideShapes Go.RowKit Go.Proofs.YtacggjhgdkkclaaW.PrintWords Go.Proofs.Ytacggjhgdkkclaa.Opens Go.Proofs.Ytacggjhgdkkclaa.KBase
open Go.Proofs.Ytacggjhgdkkclaa.PG Go.Proofs.YtacggjhgdkkclaaF
theorem oStr : Opens Try.prog 9 Kd.string (fun s => s.size ≤ 140737488351232) (fun s => s.size + 1) := opens_string Try.underlying9
theorem oFlt : Opens Try.prog 40 kflt (fun _ => True) (fun _ => 1) := (opens_float Try.underlying40).imp (fun _ _ => trivial) (fun _ => Nat.le_refl _)
theorem opened_policy {H : Type} {enc : TypeId × Value → H} {W : World} {v : Value} {d : DataW H} {ps : List MemPlace} (h : DataW.Trod enc Try.prog W 0 (fun _ => true) true 28 v d ps) (hs : (DataW.weights Try.prog 28 d).all (· ≤ reachBytes) = true) :
    ∃ p : Pol, v = .agg p.cells ∧ p.In W ∧ p.d.acts.length + p.d.subs.length + p.d.roles.length + p.d.objs.length + p.d.grps.length + p.d.mem.length + p.d.inh.length + p.d.par.length + p.d.wit.length + p.d.rules.length + p.d.exc.length ≤ Rows.uptoBulk d ∧ (∀ r ∈ p.d.rules, r.f3.length ≤ Rows.uptoBulk d) := by
  have oStrs := (opens_slice (P := Try.prog) 9 (e := 9) Try.underlying22 (by kernel_rfl) oStr).imp (m' := List.length) (fun _ h => h) (fun l => len_all l (fun x => Nat.le_add_left 1 _))
  have oSub := (opens_iso (P := Try.prog) (T := 42) (fun x : S42 => (x.f0, x.f1)) (fun a => ⟨a.1, a.2⟩) (fun _ => rfl) (opens_struct (P := Try.prog) (T := 42) (d := Kd.pair Kd.string kflt) Try.underlying42 (by kernel_rfl) (fields_cons (o' := 1) _ (by kernel_rfl) (by rfl) oStr (fields_one _ (by kernel_rfl) oFlt)))).imp (m' := fun _ => 1) (fun _ h => h) (fun _ => Nat.le_add_left 1 _)
  have oPair := (opens_iso (P := Try.prog) (T := 59) (fun x : S59 => (x.f0, x.f1)) (fun a => ⟨a.1, a.2⟩) (fun _ => rfl) (opens_struct (P := Try.prog) (T := 59) (d := Kd.pair Kd.string Kd.string) Try.underlying59 (by kernel_rfl) (fields_cons (o' := 1) _ (by kernel_rfl) (by rfl) oStr (fields_one _ (by kernel_rfl) oStr)))).imp (m' := fun _ => 1) (fun _ h => h) (fun _ => Nat.le_add_left 1 _)
  have oTri := (opens_iso (P := Try.prog) (T := 53) (fun x : S53 => (x.f0, x.f1, x.f2)) (fun a => ⟨a.1, a.2.1, a.2.2⟩) (fun _ => rfl) (opens_struct (P := Try.prog) (T := 53) (d := Kd.pair Kd.string (Kd.pair Kd.string Kd.string)) Try.underlying53 (by kernel_rfl) (fields_cons (o' := 1) _ (by kernel_rfl) (by rfl) oStr (fields_cons (o' := 2) _ (by kernel_rfl) (by rfl) oStr (fields_one _ (by kernel_rfl) oStr))))).imp (m' := fun _ => 1) (fun _ h => h) (fun _ => Nat.le_add_left 1 _)
  have oRule := (opens_iso (P := Try.prog) (T := 51) (fun x : S51 => (x.f0, x.f1, x.f2, x.f3, x.f4, x.f5)) (fun a => ⟨a.1, a.2.1, a.2.2.1, a.2.2.2.1, a.2.2.2.2.1, a.2.2.2.2.2⟩) (fun _ => rfl)
    (opens_struct (P := Try.prog) (T := 51) (d := Kd.pair Kd.bool (Kd.pair Kd.string (Kd.pair Kd.string (Kd.pair (Kd.slice 9 Kd.string) (Kd.pair (Kd.int .i8) kflt))))) Try.underlying51 (by kernel_rfl)
      (fields_cons (o' := 1) _ (by kernel_rfl) (by rfl) (opens_bool Try.underlying4) (fields_cons (o' := 2) _ (by kernel_rfl) (by rfl) oStr (fields_cons (o' := 3) _ (by kernel_rfl) (by rfl) oStr (fields_cons (o' := 4) _ (by kernel_rfl) (by rfl) oStrs (fields_cons (o' := 5) _ (by kernel_rfl) (by rfl) (opens_int (k := .i8) (by kernel_rfl)) (fields_one _ (by kernel_rfl) oFlt)))))))).imp (m' := fun r : S51 => r.f3.length + 1) (fun _ h => h) (fun r => by dsimp only; omega)
  have oSubs := (opens_slice (P := Try.prog) 42 (e := 42) (d := k42) Try.underlying23 (by kernel_rfl) oSub).imp (m' := List.length) (fun _ h => h) (fun l => len_all l (fun x => Nat.le_refl 1))
  have oPairs := (opens_slice (P := Try.prog) 59 (e := 59) (d := k59) Try.underlying24 (by kernel_rfl) oPair).imp (m' := List.length) (fun _ h => h) (fun l => len_all l (fun x => Nat.le_refl 1))
  have oRules := opens_slice (P := Try.prog) 51 (e := 51) (d := k51) Try.underlying25 (by kernel_rfl) oRule
  have oTris := (opens_slice (P := Try.prog) 53 (e := 53) (d := k53) Try.underlying26 (by kernel_rfl) oTri).imp (m' := List.length) (fun _ h => h) (fun l => len_all l (fun x => Nat.le_refl 1))
  have oPol := opens_struct (P := Try.prog) (T := 28) Try.underlying28 (by kernel_rfl)
    (fields_cons (o' := 1) _ (by kernel_rfl) (by rfl) oStrs (fields_cons (o' := 2) _ (by kernel_rfl) (by rfl) oSubs (fields_cons (o' := 3) _ (by kernel_rfl) (by rfl) oStrs (fields_cons (o' := 4) _ (by kernel_rfl) (by rfl) oStrs (fields_cons (o' := 5) _ (by kernel_rfl) (by rfl) oStrs
      (fields_cons (o' := 6) _ (by kernel_rfl) (by rfl) oPairs (fields_cons (o' := 7) _ (by kernel_rfl) (by rfl) oPairs (fields_cons (o' := 8) _ (by kernel_rfl) (by rfl) oPairs (fields_cons (o' := 9) _ (by kernel_rfl) (by rfl) oPairs (fields_cons (o' := 10) _ (by kernel_rfl) (by rfl) oRules (fields_one _ (by kernel_rfl) oTris)))))))))))
  obtain ⟨fuel, hf⟩ := h
  obtain ⟨⟨la, ls, lr, lo, lg, lm, li, lp, lw, ru, ex⟩, hK, _, hb⟩ := oPol.out enc W fuel _ _ hf hs
  obtain ⟨_, _, e0, ⟨A0, c0, rfl, h0⟩, _, _, rfl, ⟨A1, c1, rfl, h1⟩, _, _, rfl, ⟨A2, c2, rfl, h2⟩, _, _, rfl, ⟨A3, c3, rfl, h3⟩, _, _, rfl, ⟨A4, c4, rfl, h4⟩, _, _, rfl, ⟨A5, c5, rfl, h5⟩, _, _, rfl, ⟨A6, c6, rfl, h6⟩, _, _, rfl, ⟨A7, c7, rfl, h7⟩, _, _, rfl, ⟨A8, c8, rfl, h8⟩, _, _, rfl, ⟨A9, c9, rfl, h9⟩, ⟨A10, c10, rfl, h10⟩⟩ := hK
  have hv := agg_of_cells e0 (by simp)
  subst hv
  have hru : ru.length ≤ all (fun r : S51 => r.f3.length + 1) ru := len_all ru (fun x => Nat.le_add_left 1 _)
  refine ⟨⟨⟨la, ls, lr, lo, lg, lm, li, lp, lw, ru, ex⟩, A0, c0, A1, c1, A2, c2, A3, c3, A4, c4, A5, c5, A6, c6, A7, c7, A8, c8, A9, c9, A10, c10⟩, by simp [Pol.cells], ⟨h0.2, h1.2, h2.2, h3.2, h4.2, h5.2, h6.2, h7.2, h8.2, h9.2, h10.2, h0.1, h1.1, h2.1, h3.1, h4.1, h5.1, h6.1, h7.1, h8.1, h9.1, h10.1⟩, ?_, ?_⟩
  · dsimp only at hb ⊢; omega
  · intro r hr
    have h1 : r.f3.length + 1 ≤ all (fun r : S51 => r.f3.length + 1) ru := mem_all (m := fun r : S51 => r.f3.length + 1) hr
    dsimp only at hb ⊢; omega
end Go.Proofs.Ytacggjhgdkkclaa.KPolicy
/- Many rows of one's own, held together. -/
namespace Go.Proofs.Ytacggjhgdkkclaa.KRoomB
open Go.RowKit Go.Proofs.YtacggjhgdkkclaaW.PrintWords Go.Proofs.YtacggjhgdkkclaaW.PrintLast Go.Proofs.YtacggjhgdkkclaaW.PrintMore Go.Maps
open Go.Proofs.Ytacggjhgdkkclaa Go.Proofs.Ytacggjhgdkkclaa.PG Go.Proofs.YtacggjhgdkkclaaF Go.Proofs.Ytacggjhgdkkclaa.KBase
set_option linter.unusedSimpArgs false
def Only (t : Nat) (W W1 : World) : Prop := ∀ (k : Nat) (cells : Array Value) (t' : Nat), W.heap[k]? = some (Obj.cells cells t' (0, 0)) → t' ≠ t → W1.heap[k]? = W.heap[k]?
theorem Only.set {t g j : Nat} {W : World} {cs : Array Value} (h : Stays W g cs t) (v : Value) : Only t W (W.setCell ⟨g, j, none⟩ v) := fun k cells t' hk hne => heap_setCell_other W ⟨g, j, none⟩ k v (fun e => by
  have hk' : W.heap[g]? = some (.cells cells t' (0, 0)) := by have e : k = g := e; rw [← e]; exact hk
  rw [show W.heap[g]? = some (.cells cs t (0, 0)) from h] at hk'
  injection hk' with h1
  injection h1 with _ h2 _
  exact hne h2.symm)
theorem Only.sets {t g : Nat} {W : World} {cs : Array Value} (h : Stays W g cs t) (l : List Value) : Only t W (W.setCells g 0 l) := fun k cells t' hk hne => setCells_far l 0 k (fun e => by
  subst e
  rw [show W.heap[k]? = some (.cells cs t (0, 0)) from h] at hk
  injection hk with h1
  injection h1 with _ h2 _
  exact hne h2.symm)
theorem Only.grown {t : Nat} {W W1 : World} {row : Option Nat} (hg : W.grownBy W1 row) (ht : ∀ k, row = some k → ∃ cells, W.heap[k]? = some (.cells cells t (0, 0))) : Only t W W1 := fun k cells t' hk hne => hg.block k (Array.getElem?_eq_some_iff.1 hk).1 (fun e => by
  obtain ⟨c', hc⟩ := ht k e.symm
  rw [hc] at hk
  injection hk with h1
  injection h1 with _ h2 _
  exact hne h2.symm)
structure Ent where
  T : List Nat
  P : World → Prop
  only : ∀ t W W1, P W → t ∉ T → Only t W W1 → P W1
  below : ∀ W W1, P W → Below W.heap.size W W1 → P W1
def entO {α : Type} (d : Kd α) (e base : Nat) (ok : Nat → Prop) (v : Value) (xs : List α) : Ent where
  T := e :: d.E
  P := fun W => d.R e W base ok v xs
  only := fun t W W1 h ht ho => Kd.R_mono (Kd.R_step (Kd.R_bound h) (fun k hk _ => by
    obtain ⟨_, _, _, q, hq, cells, hc⟩ := hk
    exact ho k cells q hc (fun e => ht (e ▸ hq)))) (fun _ hk => hk.1)
  below := fun W W1 h hb => Kd.R_below h hb
abbrev ent {α : Type} (d : Kd α) (e base : Nat) (v : Value) (xs : List α) : Ent := entO d e base (fun _ => True) v xs
abbrev TR := S51 × Option Addr × Nat
abbrev sh : ByteArray := ⟨#[35]⟩
def lcell (x : TR) : List Value := [.slice x.2.1 (x.1.f3.length + 1) x.2.2]
def rcell (x : TR) : List Value := [.bool x.1.f0, .string x.1.f1, .string x.1.f2, .slice x.2.1 x.1.f3.length x.2.2, .int .i8 x.1.f4, .float .f64 x.1.f5]
def entEach (base : Nat) (T : List TR) : Ent where
  T := [9]
  P := fun W => ∀ x ∈ T, Kd.R Kd.string 9 W base (fun _ => True) (.slice x.2.1 (x.1.f3.length + 1) x.2.2) (x.1.f3 ++ [sh])
  only := fun t W W1 h ht ho x hx => (ent Kd.string 9 base (.slice x.2.1 (x.1.f3.length + 1) x.2.2) (x.1.f3 ++ [sh])).only t W W1 (h x hx) ht ho
  below := fun _ _ h hb x hx => Kd.R_below (h x hx) hb
theorem R_only {α : Type} {d : Kd α} {e base t : Nat} {ok : Nat → Prop} {v : Value} {xs : List α} {W W1 : World} (h : d.R e W base ok v xs) (ho : Only t W W1) (ht : (e :: d.E).contains t = false) : d.R e W1 base ok v xs :=
  (entO d e base ok v xs).only t W W1 h (fun hm => by
    have := List.contains_iff_mem.2 hm
    rw [show (entO d e base ok v xs).T = e :: d.E from rfl, ht] at this
    cases this) ho
def All (L : List Ent) (W : World) : Prop := ∀ E, E ∈ L → E.P W
theorem All.nil (W : World) : All [] W := fun _ h => by simp at h
theorem All.cons {L : List Ent} {E : Ent} {W : World} (h : E.P W) (hl : All L W) : All (E :: L) W := fun F hF => by
  rcases List.mem_cons.1 hF with rfl | h2
  · exact h
  · exact hl F h2
theorem All.only {L : List Ent} {t : Nat} {W W1 : World} (h : All L W) (ho : Only t W W1) (ht : L.all (fun E => !(E.T.contains t)) = true) : All L W1 := fun E hE => E.only t W W1 (h E hE) (by
  have := List.all_eq_true.1 ht E hE
  simpa using this) ho
theorem All.below {L : List Ent} {W W1 : World} (h : All L W) (hb : Below W.heap.size W W1) : All L W1 := fun E hE => E.below W W1 (h E hE) hb
theorem All.drop {L : List Ent} {E : Ent} {W : World} (h : All (E :: L) W) : All L W := fun F hF => h F (List.mem_cons_of_mem _ hF)
theorem All.get {L : List Ent} {W : World} (h : All L W) (i : Nat) {E : Ent} (hi : L[i]? = some E) : E.P W := h E (List.mem_of_getElem? hi)
structure Rm (w : World) (g1 gv g3 : Nat) (pc rc cs : Array Value) (L : List Ent) (W : World) : Prop where
  box : Stays W g1 pc 28
  res : Stays W gv rc 33
  f : Stays W g3 cs 28
  all : All L W
  below : Below w.heap.size w W
  n1 : g1 ≠ g3
  n3 : w.heap.size ≤ g3
section
variable {w W W1 : World} {g1 gv g3 : Nat} {pc rc cs : Array Value} {L : List Ent} {E : Ent}
theorem Rm.move (h : Rm w g1 gv g3 pc rc cs L W) (hb : Below W.heap.size W W1) : Rm w g1 gv g3 pc rc cs L W1 :=
  ⟨h.box.below hb, h.res.below hb, h.f.below hb, h.all.below hb, below_then h.below h.below.size hb, h.n1, h.n3⟩
theorem Rm.add (h : Rm w g1 gv g3 pc rc cs L W) (hE : E.P W) : Rm w g1 gv g3 pc rc cs (E :: L) W := ⟨h.box, h.res, h.f, All.cons hE h.all, h.below, h.n1, h.n3⟩
theorem Rm.drop (h : Rm w g1 gv g3 pc rc cs (E :: L) W) : Rm w g1 gv g3 pc rc cs L W := ⟨h.box, h.res, h.f, h.all.drop, h.below, h.n1, h.n3⟩
theorem Rm.set (h : Rm w g1 gv g3 pc rc cs L W) (j : Nat) (v : Value) (hn : gv ≠ g3) (ht : L.all (fun E => !(E.T.contains 28)) = true) : Rm w g1 gv g3 pc rc (cs.setIfInBounds j v) L (W.setCell ⟨g3, j, none⟩ v) :=
  ⟨stays_far h.box h.n1 v, stays_far h.res hn v, stays_set h.f j v, h.all.only (Only.set h.f v) ht, below_set h.below h.n3, h.n1, h.n3⟩
theorem Rm.var (h : Rm w g1 gv g3 pc rc cs L W) {g6 t j : Nat} {c6 : Array Value} (hs : Stays W g6 c6 t) (v : Value) (m1 : g1 ≠ g6) (mv : gv ≠ g6) (m3 : g3 ≠ g6) (hge : w.heap.size ≤ g6) (ht : L.all (fun E => !(E.T.contains t)) = true) : Rm w g1 gv g3 pc rc cs L (W.setCell ⟨g6, j, none⟩ v) :=
  ⟨stays_far h.box m1 v, stays_far h.res mv v, stays_far h.f m3 v, h.all.only (Only.set hs v) ht, below_set h.below hge, h.n1, h.n3⟩
theorem Rm.sets (h : Rm w g1 gv g3 pc rc cs L W) {g6 t : Nat} {c6 : Array Value} (hs : Stays W g6 c6 t) (l : List Value) (m1 : g1 ≠ g6) (mv : gv ≠ g6) (m3 : g3 ≠ g6) (hge : w.heap.size ≤ g6) (ht : L.all (fun E => !(E.T.contains t)) = true) : Rm w g1 gv g3 pc rc cs L (W.setCells g6 0 l) :=
  ⟨setCells_stays h.box m1 l, setCells_stays h.res mv l, setCells_stays h.f m3 l, h.all.only (Only.sets hs l) ht, setCells_below h.below hge l, h.n1, h.n3⟩
theorem Rm.app (h : Rm w g1 gv g3 pc rc cs L W) {t : Nat} {v : Value} (hg : W.grownBy W1 v.ownBlock) (hv : ∀ k, v.ownBlock = some k → ∃ cells, W.heap[k]? = some (.cells cells t (0, 0))) (hb : ∀ k, v.ownBlock = some k → w.heap.size ≤ k) (h28 : t ≠ 28) (h33 : t ≠ 33) (ht : L.all (fun E => !(E.T.contains t)) = true) : Rm w g1 gv g3 pc rc cs L W1 := by
  have ho := Only.grown hg hv
  refine ⟨(ho _ _ _ h.box (fun e => h28 e.symm)).trans h.box, (ho _ _ _ h.res (fun e => h33 e.symm)).trans h.res, (ho _ _ _ h.f (fun e => h28 e.symm)).trans h.f, h.all.only ho ht, ?_, h.n1, h.n3⟩
  exact ⟨hg.os.trans h.below.os, hg.tape.trans h.below.tape, hg.output.trans h.below.output, Nat.le_trans h.below.size hg.size, fun k hk => (hg.block k (Nat.lt_of_lt_of_le hk h.below.size) (fun e => by have := hb k e.symm; omega)).trans (h.below.block k hk)⟩
end
theorem C_of_raw {α : Type} {d : Kd α} {w : World} {A : Option Addr} {n : Nat} {rows : List (List Value)} {xs : List α} (h : Kd.C (Kd.raw d.sz) w A n rows) (hl : rows.length = xs.length) (hK : ∀ (j : Nat) (x : α) (c : List Value), xs[j]? = some x → rows[j]? = some c → d.K w x c) : Kd.C d w A n xs := by
  obtain ⟨h1, h2, h3⟩ := h
  refine ⟨by rw [← hl]; exact h1, h2, fun hp => ?_⟩
  obtain ⟨ad, e, hh⟩ := h3 hp
  refine ⟨ad, e, fun j p hj => ?_⟩
  have hj' : j < rows.length := by rw [hl]; exact (List.getElem?_eq_some_iff.1 hj).1
  obtain ⟨c, hcl, hc, hcc⟩ := hh j rows[j] (List.getElem?_eq_getElem hj')
  exact ⟨c, hcl, hK j p c hj (by rw [List.getElem?_eq_getElem hj']; exact congrArg some hc.1.symm), hcc⟩
theorem Only.stays {t t' g : Nat} {W W1 : World} {cs : Array Value} (ho : Only t W W1) (h : Stays W g cs t') (hn : t' ≠ t) : Stays W1 g cs t' := (ho _ _ _ h hn).trans h
end Go.Proofs.Ytacggjhgdkkclaa.KRoomB
/- append onto a row of one's own: in its place, or in a new block and nothing old is touched. -/
namespace Go.Proofs.Ytacggjhgdkkclaa.KApp
open Go.RowKit Go.Proofs.YtacggjhgdkkclaaW.PrintWords Go.Proofs.YtacggjhgdkkclaaW.PrintLast Go.Proofs.YtacggjhgdkkclaaW.PrintMore Go.Maps
open Go.Proofs.Ytacggjhgdkkclaa Go.Proofs.Ytacggjhgdkkclaa.PG Go.Proofs.YtacggjhgdkkclaaF Go.Proofs.Ytacggjhgdkkclaa.KBase
def Went (W w1 : World) (v v1 : Value) (n m : Nat) : Prop :=
  (∃ g cap, v = .slice (some ⟨g, 0, none⟩) n cap ∧ v1 = .slice (some ⟨g, 0, none⟩) (n + m) cap ∧ W.grownBy w1 (some g)) ∨
  (∃ g cap, v1 = .slice (some ⟨g, 0, none⟩) (n + m) cap ∧ W.heap.size ≤ g ∧ W.grownBy w1 none)
theorem run_append_two {P : Program} (w : World) (base : Nat) (t ty e : TypeId) (i : TypeInfo) (z : Value) (ht : P.underlying t = some (.slice e)) (hi : P.info? e = some i) (hz : i.zero = some z)
    (hzs : z.cells.size = i.size) (v : Value) (n : Nat) (xs : List Value) (hown : w.ownsRow base e i.size v n xs)
    (a : Addr) (m c : Nat) (news : List Value) (hl : news.length = m * i.size) (hm : 0 < m) (hnews : ∀ j u, news[j]? = some u → w.cell? (a.add j) = some u) (h1 : ∀ u ∈ news, u.oneCell' = true)
    (hbytes : (n + m) * i.bytes ≤ 140737488355328) (hby : 0 < i.bytes) (hbase : base ≤ w.heap.size) :
    ∃ v' w', (Builtin.append_ #[t, t] ty #[v, .slice (some a) m c]).run P w = .ok v' w' ∧ w'.ownsRow base e i.size v' (n + m) (xs ++ news) ∧ Went w w' v v' n m := by
  have hmax : n + m ≤ 140737488355328 := Nat.le_trans (Nat.le_mul_of_pos_right _ hby) hbytes
  have h63 : n + m ≤ maxLen := by simp only [maxLen]; omega
  have hlen : (xs ++ news).length = (n + m) * i.size := by rw [List.length_append, hown.1, hl, Nat.add_mul]
  have big : ∀ old : Nat, (w.drew.alloc (.cells (xs.toArray ++ news.toArray ++ Builtin.zeroCells z.cells (grownCap w (n + m) old e - (n + m))) e)).ownsRow base e i.size (.slice (some ⟨w.heap.size, 0, none⟩) (n + m) (grownCap w (n + m) old e)) (n + m) (xs ++ news) := by
    intro old
    have hge := grownCap_ge w (n + m) old e
    refine ⟨hlen, .inr ⟨w.heap.size, _, _, rfl, hbase, heap_alloc_new w.drew _, hge, grownCap_le_maxLen w (n + m) old e h63, ?_, ?_⟩⟩
    · have : (n + m) * i.size + (grownCap w (n + m) old e - (n + m)) * i.size = grownCap w (n + m) old e * i.size := by rw [← Nat.add_mul]; congr 1; omega
      simp only [Array.size_append, List.size_toArray, size_zeroCells, hzs]
      rw [← this, ← hlen, List.length_append]
    · simp only [Array.toList_append]
      rw [← hlen]
      exact List.take_left
  have far : ∀ o : Obj, w.grownBy (w.drew.alloc o) none := fun o => ⟨rfl, rfl, rfl, by simp, fun k hk _ => Below.heap_alloc w.drew o k hk⟩
  rcases hown.2 with ⟨rfl, rfl⟩ | ⟨g, cap, cur, rfl, hbg, hg, hnc, hcm, hcs, htake⟩
  · have hx : xs = [] := List.eq_nil_of_length_eq_zero (by simpa using hown.1)
    subst hx
    have hr := run_append_nil (P := P) w t ty e i z ht hi hz a m c news hl hnews hm (by omega) (by have hb := hbytes; rw [Nat.zero_add] at hb; omega)
    have hb := big 0
    simp only [Nat.zero_add, List.nil_append, Array.empty_append] at hb
    exact ⟨_, _, hr, by simpa using hb, .inr ⟨_, _, by rw [Nat.zero_add], Nat.le_refl _, far _⟩⟩
  · by_cases hroom : n + m ≤ cap
    · have hfit : n * i.size + news.length ≤ cur.size := by rw [hl, hcs, ← Nat.add_mul]; exact Nat.mul_le_mul_right _ hroom
      have hr := run_append_room (P := P) w t ty e i ht hi g n cap cur hg a m c news hl hnews h1 hroom hfit
      refine ⟨_, _, hr, ⟨hlen, .inr ⟨g, cap, _, rfl, hbg, setRow_heap w g cur _ e _ hg, hroom, hcm, ?_, ?_⟩⟩, .inl ⟨g, cap, rfl, rfl, rfl, rfl, rfl, by simp, fun k _ hk => setRow_other w g k _ (fun e => hk (by rw [e]))⟩⟩
      · simp only [List.size_toArray, List.length_append, List.length_take, List.length_drop, Array.length_toList]
        omega
      · show List.take _ (_ ++ news ++ _) = _
        rw [htake, ← hlen]
        exact List.take_left
    · have hr := run_append_grow (P := P) w t ty e i z ht hi hz ⟨g, 0, none⟩ n cap xs hown.1 (hown.cells (g := g) rfl) a m c news hl hnews (by omega) (by omega) (growslice_fits (by omega) hbytes)
      exact ⟨_, _, hr, big cap, .inr ⟨_, _, rfl, Nat.le_refl _, far _⟩⟩
theorem Went.row {W w1 : World} {v v1 : Value} {n m : Nat} (h : Went W w1 v v1 n m) : W.grownBy w1 v.ownBlock ∧ (v1.ownBlock = v.ownBlock ∨ ∃ b, v1.ownBlock = some b ∧ W.heap.size ≤ b) := by
  rcases h with ⟨g, cap, rfl, rfl, hg⟩ | ⟨g, cap, rfl, hb, hg⟩
  · exact ⟨hg, .inl rfl⟩
  · exact ⟨⟨hg.os, hg.tape, hg.output, hg.size, fun k hk _ => hg.block k hk (by simp)⟩, .inr ⟨g, rfl, hb⟩⟩
section
variable {P : Program} {ops : Array Oper} {rest : List Oper} {o : Oper} {a : Act} {Q : Exit → Act → World → Prop} {α : Type}
theorem R_append_two (d : Kd α) {W : World} (base : Nat) (hgd : o.guard = none) (s x : Operand) (t e : TypeId) (z : Value) (bytes : Nat)
    (ho : o.op = .call { callee := .builtin .append, args := #[s, x], argTypes := #[t, t] })
    (ht : P.underlying t = some (.slice e)) (hinfo : (P.info? e).map (fun i => (i.zero, i.size, i.bytes)) = some (some z, d.sz, bytes)) (hz : z.cells.size = d.sz) (hb0 : 0 < bytes)
    (v : Value) (xs : List α) (p : α) (cs : List Value) (ok okp : Nat → Prop) (hs : a.eval s = v) (hx : a.eval x = .slice (some ⟨W.heap.size, 0, none⟩) 1 1) (hp : d.M W base okp p cs) (hokp : ∀ k, okp k → ok k ∧ some k ≠ v.ownBlock) (hfresh : ∀ k, W.heap.size ≤ k → ok k)
    (HO : d.R e W base ok v xs) (hbase : base ≤ W.heap.size) (hl : (xs.length + 1) * bytes ≤ 140737488355328)
    (h : ∀ v1 w1, d.R e w1 base ok v1 (xs ++ [p]) → Went W w1 v v1 xs.length 1 → wpList P ops Q rest (a.put o.dst v1) w1) :
    wpList P ops Q (o :: rest) a (W.alloc (.cells cs.toArray e)) := by
  obtain ⟨h0, inner, hown, hr⟩ := HO
  obtain ⟨i0, hi, hzz⟩ := Option.map_eq_some_iff.1 hinfo
  simp only [Prod.mk.injEq] at hzz
  obtain ⟨hz0, hz1, hz2⟩ := hzz
  refine wpList_plain hgd fun K hK => ?_
  have hcs : cs.length = d.sz := d.K_len (d.K_of_M hp)
  obtain ⟨v', w', hrun, hown', hw⟩ := run_append_two (P := P) (W.alloc (.cells cs.toArray e)) base t o.type e i0 z ht hi hz0 (by rw [hz, hz1]) v xs.length inner (by rw [hz1]; exact hown.alloc _) ⟨W.heap.size, 0, none⟩ 1 1 cs (by rw [hcs, hz1]; simp) (by omega)
    (by simpa using World.news_of_block (cs := cs.toArray) (t := e) (fr := (0, 0)) (heap_alloc_new W (.cells cs.toArray e))) (d.K_one (d.K_of_M hp)) (by rw [hz2]; exact hl) (by rw [hz2]; exact hb0) (by simp; omega)
  have hw1 : Went W w' v v' xs.length 1 := by
    have up : ∀ row, (W.alloc (.cells cs.toArray e)).grownBy w' row → W.grownBy w' row := fun row hg => ⟨hg.os, hg.tape, hg.output, by have := hg.size; simp at this; omega, fun k hk hn => (hg.block k (by simp; omega) hn).trans (Below.heap_alloc W _ k hk)⟩
    rcases hw with ⟨g, cap, e1, e2, hg⟩ | ⟨g, cap, e2, hb, hg⟩
    · exact .inl ⟨g, cap, e1, e2, up _ hg⟩
    · exact .inr ⟨g, cap, e2, by simp at hb; omega, up _ hg⟩
  rw [hz1] at hown'
  unfold Oper.wp execOp
  simp only [ho, resolve, invoke, builtin, Sem.run_bind, Sem.run_pure, Result.andThen_ok, List.map_toArray, List.map_cons, List.map_nil, hs, hx, hrun]
  exact hK _ _ (h v' w' (Kd.R_appended h0 hr hp hokp hfresh hown' hw1.row.1 hw1.row.2) hw1)
end
end Go.Proofs.Ytacggjhgdkkclaa.KApp
namespace Go.Proofs.Ytacggjhgdkkclaa.PG
open Go.Proofs.YtacggjhgdkkclaaF
attribute [local go_sem high] run_feq run_fne run_flt_lt run_flt_le run_flt_gt run_flt_ge
open Go.RowKit Go.Proofs.YtacggjhgdkkclaaW.PrintWords Go.Proofs.YtacggjhgdkkclaaW.PrintLast Go.Proofs.YtacggjhgdkkclaaW.PrintMore
attribute [local go_sem] max2_int min2_int max_two min_two max_three min_three max_four min_four   -- for this text's walks alone
set_option linter.unusedVariables false
set_option linter.unusedSimpArgs false
/-! ### gatehouselaw05_longer: function 13 -/
def gatehouselaw05_longer.f (l0 : List ByteArray) : Option (List ByteArray) := if ([] : List ByteArray).length + l0.length < 8796093022208 then ((some (([] : List ByteArray) ++ l0 : List ByteArray)).bind fun y204 => (if y204.length < 8796093022208 then (some (y204 ++ [(⟨#[35]⟩ : ByteArray)])) else (none))) else (none)
set_option maxHeartbeats 8000000 in
set_option maxRecDepth 100000 in
theorem gatehouselaw05_longer.calls (A0 : Option Addr) (c0 : Nat) (l0 : List ByteArray) (r : List ByteArray) (w : World) (hr0 : Kd.C Kd.string w A0 l0.length l0) (hc0 : l0.length ≤ c0) (h : gatehouselaw05_longer.f l0 = some r) :
    Calls Try.prog 13 #[.slice A0 l0.length c0] w fun e w' => ∃ v0_ : Value, e = .returned (v0_) ∧ Kd.R Kd.string 9 w' w.heap.size (fun _ => True) v0_ r ∧ Below w.heap.size w w' := by
  have HR0 := Aside0.mk hr0
  have HC0 := Aside0.mk hc0
  clear hr0 hc0
  have HB := Aside0.mk (Below.refl w.heap.size w)
  have H : (if ([] : List ByteArray).length + l0.length < 8796093022208 then ((some (([] : List ByteArray) ++ l0 : List ByteArray)).bind fun y204 => (if y204.length < 8796093022208 then (some (y204 ++ [(⟨#[35]⟩ : ByteArray)])) else (none))) else (none)) = some r := h
  clear h
  by_cases c2 : ([] : List ByteArray).length + l0.length < 8796093022208
  · rw [if_pos c2] at H
    have LMc2 := Aside0.mk c2
    clear c2
    obtain ⟨y204, hy204⟩ : ∃ y_ : List ByteArray, y_ = (([] : List ByteArray) ++ l0) := ⟨_, rfl⟩
    replace H : (if y204.length < 8796093022208 then (some (y204 ++ [(⟨#[35]⟩ : ByteArray)])) else (none)) = some r := by first | (rw [hy204]; with_reducible exact H) | (have H2_ := (Option.bind_some _ _).symm.trans H; rw [hy204]; with_reducible exact H2_) | (have H2_ := (Option.bind_some _ _).symm.trans H; with_reducible exact H2_) | with_reducible exact H | (rw [hy204]; exact H) | exact H
    have Ny204 := Aside0.mk hy204
    clear hy204
    by_cases c3 : y204.length < 8796093022208
    · rw [if_pos c3] at H
      have LMc3 := Aside0.mk c3
      clear c3
      obtain ⟨y207, hy207⟩ : ∃ y_ : List ByteArray, y_ = (y204 ++ [(⟨#[35]⟩ : ByteArray)]) := ⟨_, rfl⟩
      replace H : (some y207) = some r := by first | (rw [hy207]; with_reducible exact H) | (have H2_ := (Option.bind_some _ _).symm.trans H; rw [hy207]; with_reducible exact H2_) | (have H2_ := (Option.bind_some _ _).symm.trans H; with_reducible exact H2_) | with_reducible exact H | (rw [hy207]; exact H) | exact H
      have Ny207 := Aside0.mk hy207
      clear hy207
      obtain rfl := Option.some.inj H
      go_enter Try.func13, Try.ntmps13
      go_wp2_with (first | ((with_reducible refine gate_builtin (b := .append) (xs := #[.tmp 4, .tmp 5]) rfl ?_); at_builtin; refine Kd.R_append_rows Kd.string (w0 := w) w.heap.size rfl (.tmp 4) (.tmp 5) 22 9 (.string ⟨#[]⟩) 16 rfl Try.underlying22 info9 rfl (by decide) (by omega) (.slice none 0 0) ([] : List ByteArray) l0 _ _ _ (fun _ => True) (fun _ => False) rfl rfl ?aO ?aR (fun _ _ h => h) (fun _ h => h.elim) ?aF ?aB ?aS ?aL ?_; (case aR => repeat (first | exact HR0.out | (with_reducible refine Kd.C_alloc ?_ _) | (with_reducible refine Kd.C_drewN ?_ _) | (with_reducible refine Kd.C_drew ?_))); (case aB => exact (by repeat (first | (with_reducible first | exact HB.out | apply below_alloc | apply pw_below_drewN | apply below_drew1) | exact HB.out))); (case aF => exact (fun _ _ => trivial)); (case aO => exact ((Kd.R_nil _ _ _ _ (fun _ => True)))); (case aS => exact (below_size (by repeat (first | (with_reducible first | exact HB.out | apply below_alloc | apply pw_below_drewN | apply below_drew1) | exact HB.out)))); (case aL => have := LMc2.out; omega); intro v205 w4 ho hb hg hat; rw [← Ny204.out] at ho; have n0_ := Aside0.mk (hb); have n1_ := Aside0.mk (ho); clear HB; have HB := n0_; have HO206 := n1_; clear n0_ n1_; clear ho hb hg hat) | ((with_reducible refine gate_builtin (b := .append) (xs := #[.tmp 7, .tmp 8]) rfl ?_); at_builtin; refine Kd.R_append Kd.string (w0 := w) w.heap.size rfl (.tmp 7) (.tmp 8) 22 9 (.string ⟨#[]⟩) 16 rfl Try.underlying22 info9 rfl (by decide) (by omega) v205 y204 (⟨#[35]⟩ : ByteArray) [.string (⟨#[35]⟩ : ByteArray)] (fun _ => True) (fun _ => False) rfl rfl ?aP (fun _ hk => hk.elim) ?aF ?aO ?aB ?aS ?aL ?_; (case aP => exact rfl); (case aB => exact (by repeat (first | (with_reducible first | exact HB.out | apply below_alloc | apply pw_below_drewN | apply below_drew1) | exact HB.out))); (case aF => exact (fun _ _ => trivial)); (case aO => exact (by (with_reducible repeat (first | apply Kd.R_alloc | apply Kd.R_drewN | apply Kd.R_drew)); exact HO206.out)); (case aS => exact (below_size (by repeat (first | (with_reducible first | exact HB.out | apply below_alloc | apply pw_below_drewN | apply below_drew1) | exact HB.out)))); (case aL => have := LMc3.out; omega); intro v208 w5 ho hb hg hat; rw [← Ny207.out] at ho; have n0_ := Aside0.mk (hb); have n1_ := Aside0.mk (ho); clear HB; clear HO206; have HB := n0_; have HO209 := n1_; clear n0_ n1_; clear ho hb hg hat))
      go_ret
      exact ⟨_, by first | rfl | (simp [errW_none, errW_some] <;> rfl) | (simp [*, errW_none, errW_some] <;> rfl), by (with_reducible repeat (first | apply Kd.R_alloc | apply Kd.R_drewN | apply Kd.R_drew)); exact HO209.out, by repeat (first | (with_reducible first | exact HB.out | apply below_alloc | apply pw_below_drewN | apply below_drew1) | exact HB.out)⟩
    · rw [if_neg c3] at H
      exact absurd H (by simp)
  · rw [if_neg c2] at H
    exact absurd H (by simp)
end Go.Proofs.Ytacggjhgdkkclaa.PG
namespace Go.Proofs.Ytacggjhgdkkclaa.PG
open Go.Proofs.YtacggjhgdkkclaaF
attribute [local go_sem high] run_feq run_fne run_flt_lt run_flt_le run_flt_gt run_flt_ge
open Go.RowKit Go.Proofs.YtacggjhgdkkclaaW.PrintWords Go.Proofs.YtacggjhgdkkclaaW.PrintLast Go.Proofs.YtacggjhgdkkclaaW.PrintMore
attribute [local go_sem] max2_int min2_int max_two min_two max_three min_three max_four min_four   -- for this text's walks alone
set_option linter.unusedVariables false
set_option linter.unusedSimpArgs false
/-! ### gatehouselaw05_pairs: function 14 -/
def gatehouselaw05_pairs.f (l0 : List (S59)) : Option ((List (S59))) := if ([] : List (S59)).length + l0.length < 4398046511104 then ((some (([] : List (S59)) ++ l0 : List (S59))).bind fun y210 => (if y210.length < 4398046511104 then (some (y210 ++ [(⟨(⟨#[35]⟩ : ByteArray), (⟨#[]⟩ : ByteArray)⟩ : S59)])) else (none))) else (none)
set_option maxHeartbeats 8000000 in
set_option maxRecDepth 100000 in
theorem gatehouselaw05_pairs.calls (A0 : Option Addr) (c0 : Nat) (l0 : List (S59)) (r : List (S59)) (w : World) (hr0 : Kd.C k59 w A0 l0.length l0) (hc0 : l0.length ≤ c0) (h : gatehouselaw05_pairs.f l0 = some r) :
    Calls Try.prog 14 #[.slice A0 l0.length c0] w fun e w' => ∃ v0_ : Value, e = .returned (v0_) ∧ Kd.R k59 59 w' w.heap.size (fun _ => True) v0_ r ∧ Below w.heap.size w w' := by
  have hu59 := Try.underlying59
  have HR0 := Aside0.mk hr0
  have HC0 := Aside0.mk hc0
  clear hr0 hc0
  have HB := Aside0.mk (Below.refl w.heap.size w)
  have H : (if ([] : List (S59)).length + l0.length < 4398046511104 then ((some (([] : List (S59)) ++ l0 : List (S59))).bind fun y210 => (if y210.length < 4398046511104 then (some (y210 ++ [(⟨(⟨#[35]⟩ : ByteArray), (⟨#[]⟩ : ByteArray)⟩ : S59)])) else (none))) else (none)) = some r := h
  clear h
  by_cases c2 : ([] : List (S59)).length + l0.length < 4398046511104
  · rw [if_pos c2] at H
    have LMc2 := Aside0.mk c2
    clear c2
    obtain ⟨y210, hy210⟩ : ∃ y_ : List (S59), y_ = (([] : List (S59)) ++ l0) := ⟨_, rfl⟩
    replace H : (if y210.length < 4398046511104 then (some (y210 ++ [(⟨(⟨#[35]⟩ : ByteArray), (⟨#[]⟩ : ByteArray)⟩ : S59)])) else (none)) = some r := by first | (rw [hy210]; with_reducible exact H) | (have H2_ := (Option.bind_some _ _).symm.trans H; rw [hy210]; with_reducible exact H2_) | (have H2_ := (Option.bind_some _ _).symm.trans H; with_reducible exact H2_) | with_reducible exact H | (rw [hy210]; exact H) | exact H
    have Ny210 := Aside0.mk hy210
    clear hy210
    by_cases c3 : y210.length < 4398046511104
    · rw [if_pos c3] at H
      have LMc3 := Aside0.mk c3
      clear c3
      obtain ⟨y213, hy213⟩ : ∃ y_ : List (S59), y_ = (y210 ++ [(⟨(⟨#[35]⟩ : ByteArray), (⟨#[]⟩ : ByteArray)⟩ : S59)]) := ⟨_, rfl⟩
      replace H : (some y213) = some r := by first | (rw [hy213]; with_reducible exact H) | (have H2_ := (Option.bind_some _ _).symm.trans H; rw [hy213]; with_reducible exact H2_) | (have H2_ := (Option.bind_some _ _).symm.trans H; with_reducible exact H2_) | with_reducible exact H | (rw [hy213]; exact H) | exact H
      have Ny213 := Aside0.mk hy213
      clear hy213
      obtain rfl := Option.some.inj H
      go_enter Try.func14, Try.ntmps14
      go_wp2_with (first | ((with_reducible refine gate_builtin (b := .append) (xs := #[.tmp 4, .tmp 5]) rfl ?_); at_builtin; refine Kd.R_append_rows k59 (w0 := w) w.heap.size rfl (.tmp 4) (.tmp 5) 24 59 (.agg #[(.string ⟨#[]⟩), (.string ⟨#[]⟩)]) 32 rfl Try.underlying24 info59 rfl (by decide) (by omega) (.slice none 0 0) ([] : List (S59)) l0 _ _ _ (fun _ => True) (fun _ => False) rfl rfl ?aO ?aR (fun _ _ h => h) (fun _ h => h.elim) ?aF ?aB ?aS ?aL ?_; (case aR => repeat (first | exact HR0.out | (with_reducible refine Kd.C_alloc ?_ _) | (with_reducible refine Kd.C_drewN ?_ _) | (with_reducible refine Kd.C_drew ?_))); (case aB => exact (by repeat (first | (with_reducible first | exact HB.out | apply below_alloc | apply pw_below_drewN | apply below_drew1) | exact HB.out))); (case aF => exact (fun _ _ => trivial)); (case aO => exact ((Kd.R_nil _ _ _ _ (fun _ => True)))); (case aS => exact (below_size (by repeat (first | (with_reducible first | exact HB.out | apply below_alloc | apply pw_below_drewN | apply below_drew1) | exact HB.out)))); (case aL => have := LMc2.out; omega); intro v211 w4 ho hb hg hat; rw [← Ny210.out] at ho; have n0_ := Aside0.mk (hb); have n1_ := Aside0.mk (ho); clear HB; have HB := n0_; have HO212 := n1_; clear n0_ n1_; clear ho hb hg hat) | ((with_reducible refine gate_builtin (b := .append) (xs := #[.tmp 7, .tmp 9]) rfl ?_); at_builtin; refine Kd.R_append k59 (w0 := w) w.heap.size rfl (.tmp 7) (.tmp 9) 24 59 (.agg #[(.string ⟨#[]⟩), (.string ⟨#[]⟩)]) 32 rfl Try.underlying24 info59 rfl (by decide) (by omega) v211 y210 (⟨(⟨#[35]⟩ : ByteArray), (⟨#[]⟩ : ByteArray)⟩ : S59) [.string (⟨#[35]⟩ : ByteArray), .string (⟨#[]⟩ : ByteArray)] (fun _ => True) (fun _ => False) rfl rfl ?aP (fun _ hk => hk.elim) ?aF ?aO ?aB ?aS ?aL ?_; (case aP => exact k59_mkM _ _ _ (⟨(⟨#[35]⟩ : ByteArray), (⟨#[]⟩ : ByteArray)⟩ : S59)); (case aB => exact (by repeat (first | (with_reducible first | exact HB.out | apply below_alloc | apply pw_below_drewN | apply below_drew1) | exact HB.out))); (case aF => exact (fun _ _ => trivial)); (case aO => exact (by (with_reducible repeat (first | apply Kd.R_alloc | apply Kd.R_drewN | apply Kd.R_drew)); exact HO212.out)); (case aS => exact (below_size (by repeat (first | (with_reducible first | exact HB.out | apply below_alloc | apply pw_below_drewN | apply below_drew1) | exact HB.out)))); (case aL => have := LMc3.out; omega); intro v214 w5 ho hb hg hat; rw [← Ny213.out] at ho; have n0_ := Aside0.mk (hb); have n1_ := Aside0.mk (ho); clear HB; clear HO212; have HB := n0_; have HO215 := n1_; clear n0_ n1_; clear ho hb hg hat))
      go_ret
      exact ⟨_, by first | rfl | (simp [errW_none, errW_some] <;> rfl) | (simp [*, errW_none, errW_some] <;> rfl), by (with_reducible repeat (first | apply Kd.R_alloc | apply Kd.R_drewN | apply Kd.R_drew)); exact HO215.out, by repeat (first | (with_reducible first | exact HB.out | apply below_alloc | apply pw_below_drewN | apply below_drew1) | exact HB.out)⟩
    · rw [if_neg c3] at H
      exact absurd H (by simp)
  · rw [if_neg c2] at H
    exact absurd H (by simp)
end Go.Proofs.Ytacggjhgdkkclaa.PG
