/- A check and a version end, whatever the memory holds and whatever is written between their steps. Conditions: none beyond the statement's own. -/
import Derived.Test.YtdgkppldopiaoaaGreatRows
import Derived.Laws.IdiomArrays
import Derived.WalkKit
import Derived.ProofKit
import Derived.OpenShut
import Derived.ShutString
import Derived.ChangeOld
import Derived.Below
import Derived.SizedLaws
import Derived.Test.YtdgkppldopiaoaaGreatZ1
import Derived.Test.YtdgkppldopiaoaaGreatZ6
namespace Go.Proofs.YtdgkppldopiaoaaGreat.ReaderEndsRow
open Go.ChangeShapes Go.WideShapes Go.ChangeAt Go.RowKit Go.Proofs.YtdgkppldopiaoaaGreatW.PrintWords Go.Proofs.YtdgkppldopiaoaaGreat.Opens
open Go.ChangeMaps (open_string shut_string)
set_option maxRecDepth 100000
theorem own : ownKnob Tryz.prog.godebug = none := by kernel_rfl
theorem laidOut : laidOutB Tryz.prog = true := by kernel_rfl
theorem agg_of_cells {v : Value} {cs : List Value} (h : v.cells.toList = cs) (hl : cs.length ≠ 1) : v = .agg cs.toArray := by
 subst h
 cases v <;> simp [Value.cells] at hl ⊢
theorem opened_ints {H : Type} {enc : TypeId × Value → H} {W : World} {b0 : Nat} {v : Value} {d : DataW H} {ps : List MemPlace} (hv : Value.okWide Tryz.prog W .any b0 22 v) (h : DataW.Trod enc Tryz.prog W 0 (fun _ => true) true 22 v d ps) (hs : (DataW.weights Tryz.prog 22 d).all (· ≤ reachBytes) = true) :
  ∃ (A : Option Addr) (c : Nat) (l : List Int), v = .slice A l.length c ∧ Kd.C (Kd.int .i64) W A l.length l := by
 have oI := opens_slice (P := Tryz.prog) 3 (e := 3) Tryz.underlying22 (by kernel_rfl) (opens_int Tryz.underlying3)
 obtain ⟨a, len, cap, rfl⟩ := okWide_slice Tryz.underlying22 hv
 obtain ⟨fuel, hf⟩ := h
 obtain ⟨l, hK, _, _⟩ := oI.out enc W fuel _ _ hf hs
 obtain ⟨A, c, e0, _, hC⟩ := hK
 simp [Value.cells] at e0
 obtain ⟨rfl, rfl, rfl⟩ := e0
 exact ⟨_, _, l, rfl, hC⟩
theorem opened_arr {H : Type} {enc : TypeId × Value → H} {W : World} {b0 : Nat} {v : Value} {d : DataW H} {ps : List MemPlace} (hv : Value.okWide Tryz.prog W .any b0 31 v) (h : DataW.Trod enc Tryz.prog W 0 (fun _ => true) true 31 v d ps) :
  ∃ a b c : Int, v = .agg #[.int .i64 a, .int .i64 b, .int .i64 c] := by
 simp only [Value.okWide, Tryz.underlying31] at hv
 obtain ⟨cs, rfl, hz, _⟩ := hv
 have h3 : Tryz.prog.cellsOf 31 = 3 := by kernel_rfl
 rw [h3] at hz
 obtain ⟨fuel, hf⟩ := h
 obtain ⟨c0, c1, c2, e⟩ : ∃ c0 c1 c2, cs.toList = [c0, c1, c2] := by
  match hq : cs.toList, (show cs.toList.length = 3 by simpa using hz) with
  | [c0, c1, c2], _ => exact ⟨c0, c1, c2, rfl⟩
 have e' : (Value.agg cs).cells.toList = [c0, c1, c2] := e
 rw [e'] at hf
 obtain ⟨y0, y1, y2, n, _, h0, h1, h2⟩ := trod_array3 Tryz.underlying31 (by kernel_rfl) hf
 obtain ⟨a, e0, _, _⟩ := DataW.trod_int Tryz.underlying3 h0
 obtain ⟨b, e1, _, _⟩ := DataW.trod_int Tryz.underlying3 h1
 obtain ⟨c, e2, _, _⟩ := DataW.trod_int Tryz.underlying3 h2
 obtain rfl : c0 = _ := by injection e0
 obtain rfl : c1 = _ := by injection e1
 obtain rfl : c2 = _ := by injection e2
 exact ⟨a, b, c, agg_of_cells e' (by simp)⟩
set_option maxRecDepth 100000 in
theorem lifted (os : Os) (started : os.Started) (H : Type) (enc : TypeId × Value → H) :
  ReturnsInHanded {} Tryz.checked os 4 .any (Rows.readerEndsSpec.pre6 enc Tryz.prog Tryz.f4 Rows.readerEndsRow.domain false) (Rows.readerEndsSpec.post enc Tryz.prog Tryz.f4 false true false false) := by
 refine returnsInHanded_of_change_sized (C := Tryz.checked) own started (by kernel_rfl) Tryz.func4
  (ChangeSpec.witness6 (enc := enc) (C := Tryz.checked) false ⟨#[], #[.slice none 0 0, .slice none 0 0, .agg #[.int .i64 0, .int .i64 0, .int .i64 0], .int .i64 0], []⟩ 8 (by kernel_rfl) (by kernel_rfl) (by kernel_rfl) (by kernel_rfl)) ?_
 intro W base args ds gs before hval0 hW hcnd hsz0 _
 have hsz : (DataW.weightsEach Tryz.prog (Tryz.f4.params.toList ++ Rows.readerEndsSpec.plain.varTypes Tryz.prog) (ds ++ gs)).all (· ≤ reachBytes) = true := hsz0
 have hval : ∀ (j : Nat) t v, Tryz.f4.params[j]? = some t → args[j]? = some v → Value.okWide Tryz.prog W .any base t v := hval0
 have hW' := hW
 obtain ⟨p, q, hA0, hV, rfl, hfz, hnd⟩ := hW
 have hA : DataW.TrodAll enc Tryz.prog W 0 (fun _ => true) true Tryz.f4.params.toList args.toList ds p := hA0
 rw [Tryz.params4] at hA hsz
 obtain ⟨v0, vs0, d0, ds0, p0, q0, hargs, rfl, rfl, h0, r0⟩ := trodAll_cons hA
 obtain ⟨v1, vs1, d1, ds1, p1, q1, rfl, rfl, rfl, h1, r1⟩ := trodAll_cons r0
 obtain ⟨v2, vs2, d2, ds2, p2, q2, rfl, rfl, rfl, h2, r2⟩ := trodAll_cons r1
 obtain ⟨v3, vs3, d3, ds3, p3, q3, rfl, rfl, rfl, h3, r3⟩ := trodAll_cons r2
 obtain ⟨rfl, rfl, rfl⟩ := trodAll_nil r3
 obtain rfl : args = #[v0, v1, v2, v3] := by cases args; simp_all
 obtain ⟨rfl, rfl⟩ := trodVars_none hV
 have k0 := h0
 have lt0 : ∀ x ∈ p0, x.block < W.heap.size := by obtain ⟨m, hm⟩ := k0; exact DataW.trod_lt m _ _ _ hm
 have k1 := h1
 have lt1 : ∀ x ∈ p1, x.block < W.heap.size := by obtain ⟨m, hm⟩ := k1; exact DataW.trod_lt m _ _ _ hm
 have k2 := h2
 have lt2 : ∀ x ∈ p2, x.block < W.heap.size := by obtain ⟨m, hm⟩ := k2; exact DataW.trod_lt m _ _ _ hm
 have k3 := h3
 have lt3 : ∀ x ∈ p3, x.block < W.heap.size := by obtain ⟨m, hm⟩ := k3; exact DataW.trod_lt m _ _ _ hm
 have s0 : (DataW.weights Tryz.prog 22 d0).all (· ≤ reachBytes) = true := by
  simp only [List.cons_append, DataW.weightsEach, List.all_append, Bool.and_eq_true] at hsz; exact hsz.1
 have s1 : (DataW.weights Tryz.prog 22 d1).all (· ≤ reachBytes) = true := by
  simp only [List.cons_append, DataW.weightsEach, List.all_append, Bool.and_eq_true] at hsz; exact hsz.2.1
 obtain ⟨A1, c1, ws, rfl, hC1⟩ := opened_ints (hval 0 22 v0 rfl rfl) h0 s0
 obtain ⟨A2, c2, ns, rfl, hC2⟩ := opened_ints (hval 1 22 v1 rfl rfl) h1 s1
 obtain ⟨x0, x1, x2, rfl⟩ := opened_arr (hval 2 31 v2 rfl rfl) h2
 obtain ⟨flaw, rfl, _⟩ := Go.ChangeShapes.open_int Tryz.underlying3 (hval 3 3 v3 rfl rfl) h3
 clear hA0 hval0 hsz0 hsz
 refine (EMain.ends_calls W A1 A2 c1 c2 ws ns x0 x1 x2 flaw hC1 hC2).mono fun e W' ⟨he, bel⟩ => ?_
 subst he
 exact ⟨_, rfl, _, _, _, [], _, [], hW', trodAll_mk1 (shut_bool Tryz.underlying4 _), (trodAll_cons_mk (Below.trod laidOut (by kernel_rfl) (of_decide_eq_true (by kernel_rfl)) k0 bel lt0) (trodAll_cons_mk (Below.trod laidOut (by kernel_rfl) (of_decide_eq_true (by kernel_rfl)) k1 bel lt1) (trodAll_cons_mk (Below.trod laidOut (by kernel_rfl) (of_decide_eq_true (by kernel_rfl)) k2 bel lt2) (trodAll_cons_mk (Below.trod laidOut (by kernel_rfl) (of_decide_eq_true (by kernel_rfl)) k3 bel lt3) trodAll_mk0)))), rfl, bel.frame _, fun h => by cases h⟩
theorem over : Rows.readerEndsRow.holds Tryz.pinned (OpenSpec.ofChange Rows.readerEndsSpec) :=
 OpenClaim.holds_of_wide 4 Tryz.f4 rfl rfl rfl rfl rfl rfl rfl ⟨rfl, rfl, rfl, rfl, rfl⟩ rfl rfl rfl rfl rfl (by kernel_rfl) Tryz.func4 (by kernel_rfl)
  (of_decide_eq_true (by kernel_rfl)) (by unfold Func.isWrapper; first | (rw [if_pos (by decide +kernel)]; kernel_rfl) | (rw [if_neg (by decide +kernel)]; exact ⟨rfl, rfl⟩))
  (fun os started H enc _ => lifted os started H enc)
end Go.Proofs.YtdgkppldopiaoaaGreat.ReaderEndsRow
namespace Go.Proofs.YtdgkppldopiaoaaGreat
theorem readerEnds_holds : Rows.ReaderEndsSaid := ReaderEndsRow.over
end Go.Proofs.YtdgkppldopiaoaaGreat
