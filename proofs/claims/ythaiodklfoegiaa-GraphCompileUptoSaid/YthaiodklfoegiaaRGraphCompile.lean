/- A policy's graph, where what comes in is of bulk at most 1048576: the law answers true. Conditions: none beyond the statement's own. -/
import Derived.Test.YthaiodklfoegiaaRows
import Derived.WalkKit
import Derived.ProofKit
import Derived.OpenShut
import Derived.JoinedCond
import Derived.Deep.CondSized
import Derived.Below
import Derived.SizedLaws
import Derived.Test.YthaiodklfoegiaaZ2
import Derived.Test.YthaiodklfoegiaaZ9
namespace Go.Proofs.Ythaiodklfoegiaa.GraphCompileRow
open Go.ChangeShapes Go.WideShapes Go.ChangeAt Go.RowKit Go.Proofs.YthaiodklfoegiaaW.PrintWords Go.Proofs.Ythaiodklfoegiaa.Opens Go.Proofs.Ythaiodklfoegiaa.BGraph Go.Proofs.Ythaiodklfoegiaa.MPol Go.Proofs.Ythaiodklfoegiaa.OPolicy
open Go.ChangeMaps (open_string shut_string)
set_option maxRecDepth 100000 in
theorem lifted (os : Os) (started : os.Started) (H : Type) (enc : TypeId × Value → H) (F : Stop.Interp) :
  ReturnsInHanded {} Try.checked os 6 .any ((Rows.OpenSpec.upto Rows.graphCompileSpec).pre6 enc Try.prog Try.f6 Rows.graphCompileUptoRow.domain false) (((Rows.OpenSpec.upto Rows.graphCompileSpec).at F).post enc Try.prog Try.f6 false true false false) := by
 refine returnsInHanded_of_cond_sized (C := Try.checked) (s := Rows.OpenSpec.upto Rows.graphCompileSpec) (k := Rows.uptoSmall) rfl own started (by kernel_rfl) Try.func6
  (OpenSpec.witness (enc := enc) (C := Try.checked) (s := Rows.OpenSpec.upto Rows.graphCompileSpec) (k := Rows.uptoSmall) rfl false ⟨#[], #[.agg #[.slice none 0 0, .slice none 0 0, .slice none 0 0, .slice none 0 0, .slice none 0 0, .slice none 0 0, .slice none 0 0, .slice none 0 0, .slice none 0 0, .slice none 0 0, .slice none 0 0]], []⟩ 8 (by kernel_rfl) (by kernel_rfl) (by kernel_rfl)
   (x := ([.agg [.nil, .nil, .nil, .nil, .nil, .nil, .nil, .nil, .nil, .nil, .nil]], [], [])) (by kernel_rfl) rfl (by kernel_rfl)) ?_
 intro W base args ds gs before hval0 hW hcnd hk hsz0 _
 have hsz : (DataW.weightsEach Try.prog (Try.f6.params.toList ++ Rows.graphCompileSpec.plain.varTypes Try.prog) (ds ++ gs)).all (· ≤ reachBytes) = true := hsz0
 have hW' := hW
 obtain ⟨p, q, hA0, hV, rfl, hfz, hnd⟩ := hW
 have hA : DataW.TrodAll enc Try.prog W 0 (fun _ => true) true Try.f6.params.toList args.toList ds p := hA0
 rw [Try.params6] at hA hsz
 obtain ⟨v0, vs0, d0, ds0, p0, q0, hargs, rfl, rfl, h0, r0⟩ := trodAll_cons hA
 obtain ⟨rfl, rfl, rfl⟩ := trodAll_nil r0
 obtain rfl : args = #[v0] := by cases args; simp_all
 obtain ⟨rfl, rfl⟩ := trodVars_none hV
 have k0 := h0
 have lt0 : ∀ x ∈ p0, x.block < W.heap.size := by obtain ⟨m, hm⟩ := k0; exact DataW.trod_lt m _ _ _ hm
 have s0 : (DataW.weights Try.prog 39 d0).all (· ≤ reachBytes) = true := by
  simp only [List.cons_append, DataW.weightsEach, List.all_append, Bool.and_eq_true] at hsz; exact hsz.1
 have hb : Rows.uptoBulk d0 ≤ 1048576 := by
  have h : Rows.uptoBulkAll [d0] ≤ 1048576 := of_decide_eq_true hk
  simp only [Rows.uptoBulkAll] at h; omega
 obtain ⟨pol, rfl, hin, hok, hlen, heach⟩ := opened_policy h0 s0
 clear hA0 hval0 hsz0 hsz hk
 have hl : QRoom.Lens pol.d := ⟨by omega, by omega, by omega, by omega, by omega, by omega, by omega, by omega, by omega, by omega, by omega, fun r hr => Nat.le_trans (heach r hr) hb⟩
 refine (OLaw.law_calls pol W hin hok hl ⟨hl.acts, hl.subs, hl.roles, hl.objs, hl.grps, hl.mem, hl.inh, hl.par, hl.wit, hl.rules, hl.exc, hl.each⟩).mono fun e W' ⟨he, bel⟩ => ?_
 subst he
 exact ⟨_, rfl, _, _, _, [], _, [], hW', trodAll_mk1 (shut_bool Try.underlying4 _), (trodAll_cons_mk (Below.trod laidOut (by kernel_rfl) (of_decide_eq_true (by kernel_rfl)) k0 bel lt0) trodAll_mk0), rfl, bel.frame _, fun h => by cases h⟩
theorem over : Rows.GraphCompileUptoSaid :=
 OpenClaim.holds_of_cond 6 Try.f6 rfl rfl rfl rfl rfl rfl rfl ⟨rfl, rfl, rfl, rfl, rfl⟩ rfl rfl rfl rfl rfl (by kernel_rfl) Try.func6 (by kernel_rfl)
  (of_decide_eq_true (by kernel_rfl)) (by unfold Func.isWrapper; first | (rw [if_pos (by decide +kernel)]; kernel_rfl) | (rw [if_neg (by decide +kernel)]; exact ⟨rfl, rfl⟩))
  (fun os started H enc _ F => lifted os started H enc F)
end Go.Proofs.Ythaiodklfoegiaa.GraphCompileRow
namespace Go.Proofs.Ythaiodklfoegiaa
theorem graphCompile_holds : Rows.GraphCompileUptoSaid := GraphCompileRow.over
end Go.Proofs.Ythaiodklfoegiaa
