/- A graph, a triple as they are handed in. -/
import Derived.Test.YthaiodklfoegiaaRows
import Derived.Test.YthaiodklfoegiaaBOpen
import Derived.WalkKit
import Derived.ProofKit
import Derived.OpenShut
import Derived.ShutString
import Derived.ChangeOld
import Derived.Below
import Derived.SizedLaws
namespace Go.Proofs.Ythaiodklfoegiaa.BGraph
open Go.ChangeShapes Go.WideShapes Go.ChangeAt Go.RowKit Go.Proofs.YthaiodklfoegiaaW.PrintWords Go.Proofs.Ythaiodklfoegiaa.Opens
open Go.ChangeMaps (open_string shut_string)

theorem own : ownKnob Try.prog.godebug = none := by kernel_rfl
theorem laidOut : laidOutB Try.prog = true := by kernel_rfl
theorem agg_of_cells {v : Value} {cs : List Value} (h : v.cells.toList = cs) (hl : cs.length ≠ 1) : v = .agg cs.toArray := by
  subst h
  cases v <;> simp [Value.cells] at hl ⊢

/-- A graph and a triple as they are handed in. -/
theorem opened {H : Type} {enc : TypeId × Value → H} {W : World} {v : Value} {d : DataW H} {ps : List MemPlace} (h : DataW.Trod enc Try.prog W 0 (fun _ => true) true 26 v d ps) (hs : (DataW.weights Try.prog 26 d).all (· ≤ reachBytes) = true) :
    ∃ (A0 : Option Addr) (c0 : Nat) (la : List ByteArray) (A1 : Option Addr) (c1 : Nat) (ls : List ByteArray) (A2 : Option Addr) (c2 : Nat) (lo : List ByteArray) (A3 : Option Addr) (c3 : Nat) (of : List Int) (A4 : Option Addr) (c4 : Nat) (on : List Int) (A5 : Option Addr) (c5 : Nat) (ms : List (List Int)),
      v = .agg #[.slice A0 la.length c0, .slice A1 ls.length c1, .slice A2 lo.length c2, .slice A3 of.length c3, .slice A4 on.length c4, .slice A5 ms.length c5] ∧
      (la.length ≤ c0 ∧ Kd.C Kd.string W A0 la.length la) ∧ (ls.length ≤ c1 ∧ Kd.C Kd.string W A1 ls.length ls) ∧ (lo.length ≤ c2 ∧ Kd.C Kd.string W A2 lo.length lo) ∧
      (of.length ≤ c3 ∧ Kd.C (Kd.int .i64) W A3 of.length of) ∧ (on.length ≤ c4 ∧ Kd.C (Kd.int .i64) W A4 on.length on) ∧ (ms.length ≤ c5 ∧ Kd.C (Kd.slice 31 (Kd.int .u16)) W A5 ms.length ms) ∧
      la.length ≤ 9223372036854775807 ∧ ls.length ≤ 9223372036854775807 ∧ lo.length ≤ 9223372036854775807 ∧ ms.length ≤ 9223372036854775807 ∧ (∀ r ∈ ms, r.length ≤ 9223372036854775807) ∧
      (∀ x ∈ of, (Lit.int .i64 x).wf = true) ∧ (∀ x ∈ on, (Lit.int .i64 x).wf = true) ∧ (∀ r ∈ ms, ∀ x ∈ r, (Lit.int .u16 x).wf = true) := by
  have oS := opens_slice (P := Try.prog) 9 (e := 9) Try.underlying22 (by kernel_rfl) (opens_string Try.underlying9)
  have oI := opens_slice (P := Try.prog) 3 (e := 3) Try.underlying23 (by kernel_rfl) (opens_int Try.underlying3)
  have oM := opens_slice (P := Try.prog) 32 (e := 32) Try.underlying24 (by kernel_rfl) (opens_slice 31 (e := 31) Try.underlying32 (by kernel_rfl) (opens_int Try.underlying31))
  have oG := opens_struct (P := Try.prog) (T := 26) Try.underlying26 (by kernel_rfl) (fields_cons (o' := 1) _ (by kernel_rfl) (by rfl) oS (fields_cons (o' := 2) _ (by kernel_rfl) (by rfl) oS (fields_cons (o' := 3) _ (by kernel_rfl) (by rfl) oS
    (fields_cons (o' := 4) _ (by kernel_rfl) (by rfl) oI (fields_cons (o' := 5) _ (by kernel_rfl) (by rfl) oI (fields_one _ (by kernel_rfl) oM))))))
  obtain ⟨fuel, hf⟩ := h
  obtain ⟨⟨la, ls, lo, of, on, ms⟩, hK, hg, _⟩ := oG.out enc W fuel _ _ hf hs
  obtain ⟨_, _, e0, ⟨A0, c0, rfl, h0⟩, _, _, rfl, ⟨A1, c1, rfl, h1⟩, _, _, rfl, ⟨A2, c2, rfl, h2⟩, _, _, rfl, ⟨A3, c3, rfl, h3⟩, _, _, rfl, ⟨A4, c4, rfl, h4⟩, ⟨A5, c5, rfl, h5⟩⟩ := hK
  have hv := agg_of_cells e0 (by simp)
  subst hv
  obtain ⟨g0, g1, g2, g3, g4, g5⟩ := hg
  exact ⟨A0, c0, la, A1, c1, ls, A2, c2, lo, A3, c3, of, A4, c4, on, A5, c5, ms, by simp, h0, h1, h2, h3, h4, h5, g0.1, g1.1, g2.1, g5.1, fun r hr => (g5.2.2 r hr).1, g3.2.2, g4.2.2, fun r hr => (g5.2.2 r hr).2.2⟩

theorem opened_triple {H : Type} {enc : TypeId × Value → H} {W : World} {v : Value} {d : DataW H} {ps : List MemPlace} (h : DataW.Trod enc Try.prog W 0 (fun _ => true) true 28 v d ps) (hs : (DataW.weights Try.prog 28 d).all (· ≤ reachBytes) = true) :
    ∃ a b c : ByteArray, v = .agg #[.string a, .string b, .string c] := by
  have oS := opens_string (P := Try.prog) Try.underlying9
  have oT := opens_struct (P := Try.prog) (T := 28) Try.underlying28 (by kernel_rfl) (fields_cons (o' := 1) _ (by kernel_rfl) (by rfl) oS (fields_cons (o' := 2) _ (by kernel_rfl) (by rfl) oS (fields_one _ (by kernel_rfl) oS)))
  obtain ⟨fuel, hf⟩ := h
  obtain ⟨⟨a, b, c⟩, hK, _, _⟩ := oT.out enc W fuel _ _ hf hs
  obtain ⟨_, _, e0, rfl, _, _, rfl, rfl, rfl⟩ := hK
  have hv := agg_of_cells e0 (by simp)
  subst hv
  exact ⟨a, b, c, by simp⟩

theorem i64_of {x : Int} (h : (Lit.int .i64 x).wf = true) : -9223372036854775808 ≤ x ∧ x ≤ 9223372036854775807 := by
  simp [Lit.wf, IntKind.min, IntKind.max, IntKind.signed, IntKind.bits] at h; omega
theorem u16_of {x : Int} (h : (Lit.int .u16 x).wf = true) : 0 ≤ x ∧ x ≤ 65535 := by
  simp [Lit.wf, IntKind.min, IntKind.max, IntKind.signed, IntKind.bits] at h; omega

end Go.Proofs.Ythaiodklfoegiaa.BGraph
