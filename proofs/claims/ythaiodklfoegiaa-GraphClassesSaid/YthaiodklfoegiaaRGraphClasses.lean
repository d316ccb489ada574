/- Two subjects (objects) are of one class of a compiled graph just if layer 8 gives them the same masks with all objects (subjects), and the classes are numbered as they come. Conditions: none beyond the statement's own. -/
import Derived.Test.YthaiodklfoegiaaRows
import Derived.Test.YthaiodklfoegiaaZClasses1
import Derived.Test.YthaiodklfoegiaaZClasses4
import Derived.WalkKit
import Derived.ProofKit
import Derived.OpenShut
import Derived.ShutString
import Derived.ChangeOld
import Derived.Below
import Derived.SizedLaws
namespace Go.Proofs.Ythaiodklfoegiaa.GraphClassesRow
open Go.ChangeShapes Go.WideShapes Go.ChangeAt Go.RowKit Go.Proofs.YthaiodklfoegiaaW.PrintWords Go.Proofs.Ythaiodklfoegiaa.Opens Go.Proofs.Ythaiodklfoegiaa.BGraph Go.Proofs.Ythaiodklfoegiaa.BPolicy Go.Proofs.Ythaiodklfoegiaa.MPol
open Go.ChangeMaps (open_string shut_string)

theorem law_calls (p : Pol) (a b : Int) (w : World) (hp : p.In w) (hd : p.d.Ok) :
    Calls Try.prog 9 #[.agg p.cells, .int .i64 a, .int .i64 b] w fun e w' => e = .returned (.bool true) ∧ Below w.heap.size w w' := by
  by_cases hf : CLSays.fitsP p.d
  · exact CLClasses.law_yes p a b w hp hd hf
  · exact CLClasses.law_no p a b w hp hf

set_option maxRecDepth 100000 in
theorem lifted (os : Os) (started : os.Started) (H : Type) (enc : TypeId × Value → H) :
    ReturnsInHanded {} Try.checked os 9 .any (Rows.graphClassesSpec.pre6 enc Try.prog Try.f9 Rows.graphClassesRow.domain false) (Rows.graphClassesSpec.post enc Try.prog Try.f9 false true false false) := by
  refine returnsInHanded_of_change_sized (C := Try.checked) own started (by kernel_rfl) Try.func9
    (ChangeSpec.witness6 (enc := enc) (C := Try.checked) false ⟨#[], #[.agg #[.slice none 0 0, .slice none 0 0, .slice none 0 0, .slice none 0 0, .slice none 0 0, .slice none 0 0, .slice none 0 0, .slice none 0 0, .slice none 0 0, .slice none 0 0, .slice none 0 0], .int .i64 0, .int .i64 0], []⟩ 9 (by kernel_rfl) (by kernel_rfl) (by kernel_rfl) (by kernel_rfl)) ?_
  intro W base args ds gs before hval0 hW hcnd hsz0 _
  have hsz : (DataW.weightsEach Try.prog (Try.f9.params.toList ++ Rows.graphClassesSpec.plain.varTypes Try.prog) (ds ++ gs)).all (· ≤ reachBytes) = true := hsz0
  have hW' := hW
  obtain ⟨p, q, hA0, hV, rfl, hfz, hnd⟩ := hW
  have hA : DataW.TrodAll enc Try.prog W 0 (fun _ => true) true Try.f9.params.toList args.toList ds p := hA0
  have hval : ∀ (j : Nat) t v, Try.f9.params[j]? = some t → args[j]? = some v → Value.okWide Try.prog W .any base t v := hval0
  rw [Try.params9] at hA hsz hval
  obtain ⟨v0, vs0, d0, ds0, p0, q0, hargs, rfl, rfl, h0, r0⟩ := trodAll_cons hA
  obtain ⟨v1, vs1, d1, ds1, p1, q1, rfl, rfl, rfl, h1, r1⟩ := trodAll_cons r0
  obtain ⟨v2, vs2, d2, ds2, p2, q2, rfl, rfl, rfl, h2, r2⟩ := trodAll_cons r1
  obtain ⟨rfl, rfl, rfl⟩ := trodAll_nil r2
  obtain rfl : args = #[v0, v1, v2] := by cases args; simp_all
  obtain ⟨rfl, rfl⟩ := trodVars_none hV
  have k0 := h0
  have lt0 : ∀ x ∈ p0, x.block < W.heap.size := by obtain ⟨m, hm⟩ := k0; exact DataW.trod_lt m _ _ _ hm
  have k1 := h1
  have lt1 : ∀ x ∈ p1, x.block < W.heap.size := by obtain ⟨m, hm⟩ := k1; exact DataW.trod_lt m _ _ _ hm
  have k2 := h2
  have lt2 : ∀ x ∈ p2, x.block < W.heap.size := by obtain ⟨m, hm⟩ := k2; exact DataW.trod_lt m _ _ _ hm
  have s0 : (DataW.weights Try.prog 39 d0).all (· ≤ reachBytes) = true := by
    simp only [List.cons_append, DataW.weightsEach, List.all_append, Bool.and_eq_true] at hsz; exact hsz.1
  obtain ⟨pol, rfl, hin, hok⟩ := opened_policy h0 s0
  obtain ⟨x1, rfl⟩ : ∃ x : Int, v1 = .int .i64 x := by
    obtain ⟨n, rfl, _⟩ := Go.ChangeShapes.open_int Try.underlying3 (hval 1 3 v1 rfl rfl) h1
    exact ⟨n, rfl⟩
  obtain ⟨x2, rfl⟩ : ∃ x : Int, v2 = .int .i64 x := by
    obtain ⟨n, rfl, _⟩ := Go.ChangeShapes.open_int Try.underlying3 (hval 2 3 v2 rfl rfl) h2
    exact ⟨n, rfl⟩
  clear hA0 hval0 hsz0 hsz
  refine (law_calls pol x1 x2 W hin hok).mono fun e W' ⟨he, bel⟩ => ?_
  subst he
  exact ⟨_, rfl, _, _, _, [], _, [], hW', trodAll_mk1 (shut_bool Try.underlying4 _), (trodAll_cons_mk (Below.trod laidOut (by kernel_rfl) (of_decide_eq_true (by kernel_rfl)) k0 bel lt0) (trodAll_cons_mk (Below.trod laidOut (by kernel_rfl) (of_decide_eq_true (by kernel_rfl)) k1 bel lt1) (trodAll_cons_mk (Below.trod laidOut (by kernel_rfl) (of_decide_eq_true (by kernel_rfl)) k2 bel lt2) trodAll_mk0))), rfl, bel.frame _, fun h => by cases h⟩

theorem over : Rows.graphClassesRow.holds Try.pinned (OpenSpec.ofChange Rows.graphClassesSpec) :=
  OpenClaim.holds_of_wide 9 Try.f9 rfl rfl rfl rfl rfl rfl rfl ⟨rfl, rfl, rfl, rfl, rfl⟩ rfl rfl rfl rfl rfl (by kernel_rfl) Try.func9 (by kernel_rfl)
    (of_decide_eq_true (by kernel_rfl)) (by unfold Func.isWrapper; first | (rw [if_pos (by decide +kernel)]; kernel_rfl) | (rw [if_neg (by decide +kernel)]; exact ⟨rfl, rfl⟩))
    (fun os started H enc _ => lifted os started H enc)
end Go.Proofs.Ythaiodklfoegiaa.GraphClassesRow
namespace Go.Proofs.Ythaiodklfoegiaa
/-- The row. -/
theorem graphClasses_holds : Rows.GraphClassesSaid := GraphClassesRow.over
end Go.Proofs.Ythaiodklfoegiaa
