/- Floats as the walks of this seat have them: float64 by its bits; the six comparisons by name. -/
import Derived.Test.YtckjffhimofikaaDoorWWords
import Derived.Test.YtckjffhimofikaaDoorWFoot
namespace Go.Proofs.YtckjffhimofikaaDoorF
open Go.RowKit Go.Proofs.YtckjffhimofikaaDoorW.PrintWords
def kflt : Kd Nat := Kd.scalar (Value.float .f64) (fun _ => rfl)
theorem heap_flt : Kd.Heap kflt := ⟨fun _ h => h⟩
theorem at_flt {w : World} {A : Option Addr} {n : Nat} {xs : List Nat} (h : kflt.C w A n xs) (i : Int) (h0 : 0 ≤ i) (h1 : i < n) : ∃ ad, A = some ad ∧ w.cell? (ad.add i.toNat) = some (.float .f64 (rdOf (0 : Nat) xs i)) :=
  ReadsOf.at_ (Kd.reads_of_C (enc := Value.float .f64) (d := (0 : Nat)) (h1 := fun _ => rfl) h) i h0 h1
def feq (x y : Nat) : Bool := FloatKind.f64.format.order x y == some .eq
def fne (x y : Nat) : Bool := FloatKind.f64.format.order x y != some .eq
def flt_lt (x y : Nat) : Bool := FloatKind.f64.format.order x y == some .lt
def flt_le (x y : Nat) : Bool := FloatKind.f64.format.order x y == some .lt || FloatKind.f64.format.order x y == some .eq
def flt_gt (x y : Nat) : Bool := FloatKind.f64.format.order x y == some .gt
def flt_ge (x y : Nat) : Bool := FloatKind.f64.format.order x y == some .gt || FloatKind.f64.format.order x y == some .eq
theorem run_feq (t : TypeId) (a b : Nat) : binOp .eql t (.float .f64 a) (.float .f64 b) = pure (.bool (feq a b)) := by simp [binOp, Op.floatCmp, feq]
theorem run_fne (t : TypeId) (a b : Nat) : binOp .neq t (.float .f64 a) (.float .f64 b) = pure (.bool (fne a b)) := by simp [binOp, Op.floatCmp, fne]
theorem run_flt_lt (t : TypeId) (a b : Nat) : binOp .lss t (.float .f64 a) (.float .f64 b) = pure (.bool (flt_lt a b)) := by simp [binOp, Op.floatCmp, flt_lt]
theorem run_flt_le (t : TypeId) (a b : Nat) : binOp .leq t (.float .f64 a) (.float .f64 b) = pure (.bool (flt_le a b)) := by simp [binOp, Op.floatCmp, flt_le]
theorem run_flt_gt (t : TypeId) (a b : Nat) : binOp .gtr t (.float .f64 a) (.float .f64 b) = pure (.bool (flt_gt a b)) := by simp [binOp, Op.floatCmp, flt_gt]
theorem run_flt_ge (t : TypeId) (a b : Nat) : binOp .geq t (.float .f64 a) (.float .f64 b) = pure (.bool (flt_ge a b)) := by simp [binOp, Op.floatCmp, flt_ge]
end Go.Proofs.YtckjffhimofikaaDoorF
