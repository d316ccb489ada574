/- The listed tables, as the walks want them: the powers of ten of Go's own table (pinned by name) and of uint64pow10. -/
import Derived.Test.YtckjffhimofikaaDoorY
import Derived.Test.YtckjffhimofikaaDoorRows
import Derived.Test.YtckjffhimofikaaDoorTie
import Derived.ProofKit
import Derived.LaidMore
import Derived.Lay
import Derived.OpenShut
import Derived.SevenTiedAt
import Derived.Stop.Joined
namespace Go.Proofs.YtckjffhimofikaaDoor.Laid
open Go.ChangeShapes Go.WideShapes Go.ChangeAt Go.RowKit Go.Proofs.YtckjffhimofikaaDoor.C Go.Proofs.YtckjffhimofikaaDoor.FF Go.Proofs.YtckjffhimofikaaDoor.U Go.Proofs.YtckjffhimofikaaDoor.Y
theorem own : ownKnob Tryd.prog.godebug = none := by kernel_rfl
theorem laidOut : laidOutB Tryd.prog = true := by kernel_rfl
def laid6 : List (String × DataW Unit) := [("math/bits.deBruijn32tab", Rows.laid_math_bits_deBruijn32tab), ("math/bits.deBruijn64tab", Rows.laid_math_bits_deBruijn64tab), ("internal/strconv.optimize", Rows.laid_internal_strconv_optimize), ("internal/strconv.uint64pow10", Rows.laid_internal_strconv_uint64pow10), ("internal/strconv.leftcheats", Rows.laid_internal_strconv_leftcheats), ("internal/strconv.pow10Tab", Rows.laid_internal_strconv_pow10Tab)]
def hiN (i : Nat) : Nat := (Go.Pinned.pow10Rows.getD i (2 ^ 63, 0)).1
def loN (i : Nat) : Nat := (Go.Pinned.pow10Rows.getD i (2 ^ 63, 0)).2
theorem rows_len : Go.Pinned.pow10Rows.length = 696 := by kernel_rfl
theorem rows_big : (Go.Pinned.pow10Rows.all fun x => decide (2 ^ 63 ≤ x.1) && decide (x.1 < 2 ^ 64) && decide (x.2 < 2 ^ 64)) = true := by kernel_rfl
theorem big (i : Nat) : 2 ^ 63 ≤ hiN i ∧ hiN i < 2 ^ 64 ∧ loN i < 2 ^ 64 := by
  unfold hiN loN
  rcases Nat.lt_or_ge i Go.Pinned.pow10Rows.length with h | h
  · have := List.all_eq_true.1 rows_big _ (List.getElem_mem h)
    simp only [Bool.and_eq_true, decide_eq_true_eq] at this
    rw [List.getD, List.getElem?_eq_getElem h]
    exact ⟨this.1.1, this.1.2, this.2⟩
  · rw [List.getD, List.getElem?_eq_none h]
    decide
theorem tab_check : ((List.range 35).all fun j => decide (hiN (j + 16 + 348) = hiOf (j + 16)) && decide (loN (j + 16 + 348) = loOf (j + 16))) = true := by decide +kernel
theorem tabOk : TabOk hiN loN := by
  intro p h1 h2
  have := List.all_eq_true.1 tab_check (p - 16) (List.mem_range.2 (by omega))
  rw [show p - 16 + 16 = p by omega] at this
  simpa using this
def tens : List Int := (List.range 20).map fun i => ((10 ^ i : Nat) : Int)
theorem tens_eq : (Rows.laid_internal_strconv_uint64pow10 : DataW Unit) = .agg (tens.map fun n => .lit (.int .u64 n)) := by kernel_rfl
theorem gTen : Tryd.prog.globalNamed "internal/strconv.uint64pow10" = some 1 := by kernel_rfl
theorem gTab : Tryd.prog.globalNamed "internal/strconv.pow10Tab" = some 2 := by kernel_rfl
theorem tTen : (Tryd.prog.globals[1]?).map (·.type) = some 71 := by kernel_rfl
theorem tTab : (Tryd.prog.globals[2]?).map (·.type) = some 81 := by kernel_rfl
theorem plain6 : (laid6.all fun x => x.2.handleName?.isNone) = true := by kernel_rfl

/-- An array of whole numbers, read as it was laid. -/
theorem ints_at {P : Program} {w : World} {t e : TypeId} {n fuel : Nat} {k : IntKind} {l : List Value} {ns : List Int} {p : List MemPlace} (ht : P.underlying t = some (.array n e)) (he : P.underlying e = some (.int k)) (c1 : P.cellsOf e = 1)
    (h : DataW.trod (fun _ => ()) P w 0 (fun _ => true) false fuel t l = some (.agg (ns.map fun z => .lit (.int k z)), p)) (i : Nat) (hi : i < n) : l[i]? = (ns[i]?).map (.int k) := by
  obtain ⟨xs, m, _, ex, _, hl, hel⟩ := DataW.trod_array ht h
  have hE := hel i hi
  rw [c1, Nat.mul_one, List.getElem?_eq_getElem (by omega)] at hE
  obtain ⟨z, e1, e2, _⟩ := DataW.trod_int he hE
  have e3 : (xs.map (·.1)) = ns.map fun n => .lit (.int k n) := (DataW.agg.inj (Prod.mk.inj ex).1).symm
  have e4 : (xs.map (·.1))[i]? = (ns.map fun n => (DataW.lit (.int k n) : DataW Unit))[i]? := by rw [e3]
  rw [List.getElem?_map, List.getElem?_map, List.getElem?_eq_getElem (by omega : i < xs.length), e2] at e4
  have h0 : l[i]? = some (.int k z) := by
    have h0 : ((l.drop i).take 1)[0]? = some (.int k z) := by rw [e1]; rfl
    simpa using h0
  rw [h0]
  cases hn : ns[i]? with
  | none => rw [hn] at e4; simp at e4
  | some z' => rw [hn] at e4; simp at e4; rw [Option.map_some, e4]

/-- An array of pairs of whole numbers, read as it was laid. -/
theorem pairs_at {P : Program} {w : World} {t e : TypeId} {n fuel : Nat} {k : IntKind} {fs : Array Field} {fa fb : Field} {l : List Value} {ns : List (Nat × Nat)} {p : List MemPlace} (ht : P.underlying t = some (.array n e)) (he : P.underlying e = some (.struct fs)) (c2 : P.cellsOf e = 2)
    (f0 : fs[0]? = some fa) (f1 : fs[1]? = some fb) (o0 : fa.offset = 0) (o1 : fb.offset = 1) (ha : P.underlying fa.type = some (.int k)) (hb : P.underlying fb.type = some (.int k)) (ca : P.cellsOf fa.type = 1) (cb : P.cellsOf fb.type = 1)
    (h : DataW.trod (fun _ => ()) P w 0 (fun _ => true) false fuel t l = some (.agg (ns.map fun x => .agg [.lit (.int k x.1), .lit (.int k x.2)]), p)) (i : Nat) (hi : i < n) :
    l[i * 2]? = (ns[i]?).map (fun x => .int k x.1) ∧ l[i * 2 + 1]? = (ns[i]?).map (fun x => .int k x.2) := by
  obtain ⟨xs, m, _, ex, _, hl, hel⟩ := DataW.trod_array ht h
  have hE := hel i hi
  rw [c2, List.getElem?_eq_getElem (by omega)] at hE
  obtain ⟨ys, m', _, ey, _, hl', hel'⟩ := DataW.trod_struct he hE
  have g0 := hel' 0 fa f0
  have g1 := hel' 1 fb f1
  have s0 : 1 < fs.size := by
    rcases Nat.lt_or_ge 1 fs.size with h | h
    · exact h
    · rw [Array.getElem?_eq_none h] at f1; cases f1
  rw [ca, o0, List.drop_zero, List.getElem?_eq_getElem (by omega)] at g0
  rw [cb, o1, List.getElem?_eq_getElem (by omega)] at g1
  obtain ⟨z0, a1, a2, _⟩ := DataW.trod_int ha g0
  obtain ⟨z1, b1, b2, _⟩ := DataW.trod_int hb g1
  have e3 : (xs.map (·.1)) = ns.map fun x => .agg [.lit (.int k x.1), .lit (.int k x.2)] := (DataW.agg.inj (Prod.mk.inj ex).1).symm
  have e4 : (xs.map (·.1))[i]? = (ns.map fun x => (DataW.agg [.lit (.int k x.1), .lit (.int k x.2)] : DataW Unit))[i]? := by rw [e3]
  rw [List.getElem?_map, List.getElem?_map, List.getElem?_eq_getElem (by omega : i < xs.length), ey] at e4
  have k0 : l[i * 2]? = some (.int k z0) := by
    have : ((((l.drop (i * 2)).take 2)).take 1)[0]? = some (.int k z0) := by rw [a1]; rfl
    simpa [List.getElem?_take] using this
  have k1 : l[i * 2 + 1]? = some (.int k z1) := by
    have : ((((l.drop (i * 2)).take 2).drop 1).take 1)[0]? = some (.int k z1) := by rw [b1]; rfl
    simpa [List.getElem?_take] using this
  rw [k0, k1]
  cases hn : ns[i]? with
  | none => rw [hn] at e4; simp at e4
  | some x =>
    rw [hn] at e4
    simp only [Option.map_some, Option.some.injEq, DataW.agg.injEq] at e4
    have q0 : (ys.map (·.1))[0]? = some (.lit (.int k x.1)) := by rw [e4]; rfl
    have q1 : (ys.map (·.1))[1]? = some (.lit (.int k x.2)) := by rw [e4]; rfl
    rw [List.getElem?_map, List.getElem?_eq_getElem (by omega : 0 < ys.length), a2] at q0
    rw [List.getElem?_map, List.getElem?_eq_getElem (by omega : 1 < ys.length), b2] at q1
    simp at q0 q1
    rw [q0, q1]
    exact ⟨rfl, rfl⟩

theorem ten_at (i : Nat) (h : i < 20) : tens[i]? = some ((10 ^ i : Nat) : Int) := by
  unfold tens
  rw [List.getElem?_map, List.getElem?_range h]
  rfl

/-- WHAT THE STATEMENT's CONDITION GIVES THE WALKS. -/
theorem env_of {W : World} (h : laidMetH Tryd.prog laid6 W) : Env W := by
  rw [MakeChecks.laidMetH_plain _ _ _ plain6] at h
  obtain ⟨_, ⟨_, _, _, _, _, _, _, _, _, _, ⟨_, _, _, _, _, _, _, _, _, _, ⟨_, _, _, _, _, _, _, _, _, _, ⟨g3, t3, cs3, u3, p3, _, hg3, ht3, hv3, hd3, ⟨_, _, _, _, _, _, _, _, _, _, ⟨g5, t5, cs5, u5, p5, _, hg5, ht5, hv5, hd5, _, _⟩, _⟩, _⟩, _⟩, _⟩, _⟩, _, _⟩ := h
  obtain rfl := Option.some.inj (gTen.symm.trans hg3)
  obtain rfl := Option.some.inj (gTab.symm.trans hg5)
  obtain rfl := Option.some.inj (tTen.symm.trans ht3)
  obtain rfl := Option.some.inj (tTab.symm.trans ht5)
  rw [tens_eq] at hd3
  have hd5' : DataW.trod (fun _ => ()) Tryd.prog W 0 (fun _ => true) false u5 81 cs5.toList = some (.agg (Go.Pinned.pow10Rows.map fun x => .agg [.lit (.int .u64 x.1), .lit (.int .u64 x.2)]), p5) := hd5
  have c35 : Tryd.prog.cellsOf 35 = 1 := by kernel_rfl
  have c80 : Tryd.prog.cellsOf 80 = 2 := by kernel_rfl
  have row : ∀ i, i < 696 → Go.Pinned.pow10Rows[i]? = some (hiN i, loN i) := fun i hi => by
    unfold hiN loN
    rw [List.getD, List.getElem?_eq_getElem (by rw [rows_len]; exact hi)]
    rfl
  have hP := fun i hi => pairs_at Tryd.underlying81 Tryd.underlying80 c80 rfl rfl rfl rfl Tryd.underlying35 Tryd.underlying35 c35 c35 hd5' i hi
  have hs : 3 ≤ W.heap.size := by
    have h0 := (hP 0 (by omega)).1
    rw [row 0 (by omega)] at h0
    have h1 := World.var?_cell hg5 hv5 0
    rw [← Array.getElem?_toList, show 0 = 0 * 2 from rfl, h0] at h1
    refine Nat.lt_of_not_le fun hle => ?_
    have e : W.heap[2]? = none := Array.getElem?_eq_none hle
    simp [World.cell?, e] at h1
  refine ⟨hiN, loN, tabOk, ⟨fun i hi => ?_, fun i hi => ?_, fun i hi => ?_, hs, big⟩⟩
  · have := (hP i hi).1
    rw [World.var?_cell hg5 hv5, ← Array.getElem?_toList, this, row i hi]
    rfl
  · have := (hP i hi).2
    rw [World.var?_cell hg5 hv5, ← Array.getElem?_toList, this, row i hi]
    rfl
  · have := ints_at Tryd.underlying71 Tryd.underlying35 c35 hd3 i hi
    rw [World.var?_cell hg3 hv3, ← Array.getElem?_toList, this, ten_at i hi]
    rfl

theorem door_met (os : Os) (args : Array Value) : laidMetH Tryd.prog laid6 (((World.laidAll Tryd.prog os laid6).forCall (fun _ _ => 0) ⟨#[], args, []⟩).memory) := by
  rw [MakeChecks.laidMetH_plain _ _ _ plain6]
  exact laidMet_laidAll _ (by kernel_rfl) (by kernel_rfl)
theorem door_shaped (os : Os) : (World.laidAll Tryd.prog os laid6).os = os := World.laidAll_os _ _ _
end Go.Proofs.YtckjffhimofikaaDoor.Laid
