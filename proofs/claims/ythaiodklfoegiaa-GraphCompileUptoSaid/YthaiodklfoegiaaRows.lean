/-
  No cell of these rows narrows 'for every input' (looked for: loops, veiled, ifaces, maps, wideKeys, modest, calm, conditions, laid).
  DERIVED. THE GIVEN ROWS OF THIS SEAT. 7 by the template 'for every input the law returns true; each argument reads behind the call as it read before'; 0 by the template 'total and deterministic' (their statements: YthaiodklfoegiaaTotals.lean).
  GIVEN WITH THE SEED: the statements are not yours to turn. If you find one false, say at which input.
  Laid BY PROGRAM, IN A SANDBOX (cutbox-rows.mjs): the forced cells as the released guide's own fill.sh prints them over the translation 942046621b464d40… (all of the seat's roots in one cut). By AI agents, Wed Nov 11 2026. No macro, syntax, notation, axiom, sorry.
-/
import Derived.Test.YthaiodklfoegiaaChecked
import GoSem.Claim
import GoSem.ClaimJoined
import GoSem.ClaimMapViews
import Derived.JoinedTies
import Derived.KernelRfl
namespace Go.Proofs.Ythaiodklfoegiaa
/- THE CELL 'sum', in the pinned program and in every row, IS THE sha256 OF THE DUMP (.gsa) THAT YthaiodklfoegiaaProg.lean LOADS. Nothing in Lean hashes anything: it is a label: what it is worth is what the hold of that sum in a sandbox is worth. -/
noncomputable def Try.pinned : Pinned := { name := "ythaiodklfoegiaa", sum := "942046621b464d400df4bd730c270e282c55dffe5933f4fbe673bd75f469afb6", checked := Try.checked }
namespace Rows
def none {H : Type} : Left H := { results := [], args := [] }

/-- 'gatehouselaw11.GraphDecide': WHATEVER THE INPUT: true; the input reads as it did. -/
def graphDecideSpec : ChangeSpec := { name := "graphDecide", fn := fun _ => fun
  | [d1, d2] => { results := [.lit (.bool true)], args := [d1, d2] }
  | _ => none }
def graphDecideRow : OpenClaim := { program := "ythaiodklfoegiaa", sum := "942046621b464d400df4bd730c270e282c55dffe5933f4fbe673bd75f469afb6", func := "gatehouse/gatehouselaw11.GraphDecide", spec := "graphDecide", plainKeys := false, apart := false }
def GraphDecideSaid : Prop := graphDecideRow.holds Try.pinned (OpenSpec.ofChange graphDecideSpec)

/-- ITS FALSE NEIGHBOUR: 'it returns false'. Refute it at one input. -/
def graphDecideWrong : ChangeSpec := { name := "graphDecide", fn := fun _ => fun
  | [d1, d2] => { results := [.lit (.bool false)], args := [d1, d2] }
  | _ => none }
def GraphDecideWrongFalsely : Prop := graphDecideRow.holds Try.pinned (OpenSpec.ofChange graphDecideWrong)

/-- 'gatehouselaw11.GraphValid': WHATEVER THE INPUT: true; the input reads as it did. -/
def graphValidSpec : ChangeSpec := { name := "graphValid", fn := fun _ => fun
  | [d] => { results := [.lit (.bool true)], args := [d] }
  | _ => none }
def graphValidRow : OpenClaim := { program := "ythaiodklfoegiaa", sum := "942046621b464d400df4bd730c270e282c55dffe5933f4fbe673bd75f469afb6", func := "gatehouse/gatehouselaw11.GraphValid", spec := "graphValid", plainKeys := false, apart := false }
def GraphValidSaid : Prop := graphValidRow.holds Try.pinned (OpenSpec.ofChange graphValidSpec)

/-- ITS FALSE NEIGHBOUR: 'it returns false'. Refute it at one input. -/
def graphValidWrong : ChangeSpec := { name := "graphValid", fn := fun _ => fun
  | [d] => { results := [.lit (.bool false)], args := [d] }
  | _ => none }
def GraphValidWrongFalsely : Prop := graphValidRow.holds Try.pinned (OpenSpec.ofChange graphValidWrong)

/-- 'gatehouselaw11.GraphNames': WHATEVER THE INPUT: true; the input reads as it did. -/
def graphNamesSpec : ChangeSpec := { name := "graphNames", fn := fun _ => fun
  | [] => { results := [.lit (.bool true)], args := [] }
  | _ => none }
def graphNamesRow : OpenClaim := { program := "ythaiodklfoegiaa", sum := "942046621b464d400df4bd730c270e282c55dffe5933f4fbe673bd75f469afb6", func := "gatehouse/gatehouselaw11.GraphNames", spec := "graphNames", plainKeys := false, apart := false }
def GraphNamesSaid : Prop := graphNamesRow.holds Try.pinned (OpenSpec.ofChange graphNamesSpec)

/-- ITS FALSE NEIGHBOUR: 'it returns false'. Refute it at one input. -/
def graphNamesWrong : ChangeSpec := { name := "graphNames", fn := fun _ => fun
  | [] => { results := [.lit (.bool false)], args := [] }
  | _ => none }
def GraphNamesWrongFalsely : Prop := graphNamesRow.holds Try.pinned (OpenSpec.ofChange graphNamesWrong)

/-- 'gatehouselaw11.GraphCompile': WHATEVER THE INPUT: true; the input reads as it did. -/
def graphCompileSpec : ChangeSpec := { name := "graphCompile", fn := fun _ => fun
  | [d] => { results := [.lit (.bool true)], args := [d] }
  | _ => none }
def graphCompileRow : OpenClaim := { program := "ythaiodklfoegiaa", sum := "942046621b464d400df4bd730c270e282c55dffe5933f4fbe673bd75f469afb6", func := "gatehouse/gatehouselaw11.GraphCompile", spec := "graphCompile", unfollowed := true, recurses := true, plainKeys := false, apart := false }
def GraphCompileSaid : Prop := graphCompileRow.holds Try.pinned (OpenSpec.ofChange graphCompileSpec)

/-- ITS FALSE NEIGHBOUR: 'it returns false'. Refute it at one input. -/
def graphCompileWrong : ChangeSpec := { name := "graphCompile", fn := fun _ => fun
  | [d] => { results := [.lit (.bool false)], args := [d] }
  | _ => none }
def GraphCompileWrongFalsely : Prop := graphCompileRow.holds Try.pinned (OpenSpec.ofChange graphCompileWrong)

/-- 'gatehouselaw11.GraphOne': WHATEVER THE INPUT: true; the input reads as it did. -/
def graphOneSpec : ChangeSpec := { name := "graphOne", fn := fun _ => fun
  | [d] => { results := [.lit (.bool true)], args := [d] }
  | _ => none }
def graphOneRow : OpenClaim := { program := "ythaiodklfoegiaa", sum := "942046621b464d400df4bd730c270e282c55dffe5933f4fbe673bd75f469afb6", func := "gatehouse/gatehouselaw11.GraphOne", spec := "graphOne", unfollowed := true, recurses := true, plainKeys := false, apart := false }
def GraphOneSaid : Prop := graphOneRow.holds Try.pinned (OpenSpec.ofChange graphOneSpec)

/-- ITS FALSE NEIGHBOUR: 'it returns false'. Refute it at one input. -/
def graphOneWrong : ChangeSpec := { name := "graphOne", fn := fun _ => fun
  | [d] => { results := [.lit (.bool false)], args := [d] }
  | _ => none }
def GraphOneWrongFalsely : Prop := graphOneRow.holds Try.pinned (OpenSpec.ofChange graphOneWrong)

/-- 'gatehouselaw11.GraphSays': WHATEVER THE INPUT: true; the input reads as it did. -/
def graphSaysSpec : ChangeSpec := { name := "graphSays", fn := fun _ => fun
  | [d1, d2] => { results := [.lit (.bool true)], args := [d1, d2] }
  | _ => none }
def graphSaysRow : OpenClaim := { program := "ythaiodklfoegiaa", sum := "942046621b464d400df4bd730c270e282c55dffe5933f4fbe673bd75f469afb6", func := "gatehouse/gatehouselaw11.GraphSays", spec := "graphSays", unfollowed := true, recurses := true, plainKeys := false, apart := false }
def GraphSaysSaid : Prop := graphSaysRow.holds Try.pinned (OpenSpec.ofChange graphSaysSpec)

/-- ITS FALSE NEIGHBOUR: 'it returns false'. Refute it at one input. -/
def graphSaysWrong : ChangeSpec := { name := "graphSays", fn := fun _ => fun
  | [d1, d2] => { results := [.lit (.bool false)], args := [d1, d2] }
  | _ => none }
def GraphSaysWrongFalsely : Prop := graphSaysRow.holds Try.pinned (OpenSpec.ofChange graphSaysWrong)

/-- 'gatehouselaw11.GraphClasses': WHATEVER THE INPUT: true; the input reads as it did. -/
def graphClassesSpec : ChangeSpec := { name := "graphClasses", fn := fun _ => fun
  | [d1, d2, d3] => { results := [.lit (.bool true)], args := [d1, d2, d3] }
  | _ => none }
def graphClassesRow : OpenClaim := { program := "ythaiodklfoegiaa", sum := "942046621b464d400df4bd730c270e282c55dffe5933f4fbe673bd75f469afb6", func := "gatehouse/gatehouselaw11.GraphClasses", spec := "graphClasses", unfollowed := true, recurses := true, plainKeys := false, apart := false }
def GraphClassesSaid : Prop := graphClassesRow.holds Try.pinned (OpenSpec.ofChange graphClassesSpec)

/-- ITS FALSE NEIGHBOUR: 'it returns false'. Refute it at one input. -/
def graphClassesWrong : ChangeSpec := { name := "graphClasses", fn := fun _ => fun
  | [d1, d2, d3] => { results := [.lit (.bool false)], args := [d1, d2, d3] }
  | _ => none }
def GraphClassesWrongFalsely : Prop := graphClassesRow.holds Try.pinned (OpenSpec.ofChange graphClassesWrong)

/- THE SECOND FORM. 'bulk': how many values and letters a reading holds, each counted each time it is reached (what is shared counts as often as it is met; a slice's spare places count too). A statement '..UptoSaid' is the law's where the arguments, and the package variables that the reading takes, are together of bulk at most 1048576: NARROWER than '..Said'. Prove '..Said' where nothing that the law and all that it calls make is longer than what came in: it says more and counts as full. Else prove '..UptoSaid'. A law counts once. -/
mutual
def uptoBulk {H : Type} : DataW H → Nat
  | .lit (.string bytes) => bytes.length + 1
  | .lit _ => 1
  | .nil => 1
  | .ptr d => uptoBulk d + 1
  | .slice elems spare => uptoBulkAll elems + uptoBulkAll spare + 1
  | .agg parts => uptoBulkAll parts + 1
  | .iface _ d => uptoBulk d + 1
  | .map entries => uptoBulkEntries entries + 1
  | .held _ => 1
def uptoBulkAll {H : Type} : List (DataW H) → Nat
  | [] => 0
  | d :: r => uptoBulk d + uptoBulkAll r
def uptoBulkEntries {H : Type} : List (Lit × DataW H) → Nat
  | [] => 0
  | x :: r => uptoBulkEntry x + uptoBulkEntries r
def uptoBulkEntry {H : Type} : Lit × DataW H → Nat
  | (.string bytes, d) => bytes.length + uptoBulk d + 1
  | (_, d) => uptoBulk d + 1
 end
def uptoSmall : (H : Type) → List (DataW H) → Bool := fun _ ds => decide (uptoBulkAll ds ≤ 1048576)
def OpenSpec.upto (s : _root_.Go.ChangeSpec) : _root_.Go.OpenSpec := { _root_.Go.OpenSpec.ofChange s with cond := some uptoSmall }

/-- 'gatehouselaw11.GraphDecide', WHERE WHAT IT READS IS OF BULK AT MOST 1048576: true; the input reads as it did. -/
def graphDecideUptoRow : OpenClaim := { program := "ythaiodklfoegiaa", sum := "942046621b464d400df4bd730c270e282c55dffe5933f4fbe673bd75f469afb6", func := "gatehouse/gatehouselaw11.GraphDecide", spec := "graphDecide", plainKeys := false, apart := false, narrowed := true }
def GraphDecideUptoSaid : Prop := graphDecideUptoRow.holds Try.pinned (OpenSpec.upto graphDecideSpec)

/-- 'gatehouselaw11.GraphValid', WHERE WHAT IT READS IS OF BULK AT MOST 1048576: true; the input reads as it did. -/
def graphValidUptoRow : OpenClaim := { program := "ythaiodklfoegiaa", sum := "942046621b464d400df4bd730c270e282c55dffe5933f4fbe673bd75f469afb6", func := "gatehouse/gatehouselaw11.GraphValid", spec := "graphValid", plainKeys := false, apart := false, narrowed := true }
def GraphValidUptoSaid : Prop := graphValidUptoRow.holds Try.pinned (OpenSpec.upto graphValidSpec)

/-- 'gatehouselaw11.GraphNames', WHERE WHAT IT READS IS OF BULK AT MOST 1048576: true; the input reads as it did. -/
def graphNamesUptoRow : OpenClaim := { program := "ythaiodklfoegiaa", sum := "942046621b464d400df4bd730c270e282c55dffe5933f4fbe673bd75f469afb6", func := "gatehouse/gatehouselaw11.GraphNames", spec := "graphNames", plainKeys := false, apart := false, narrowed := true }
def GraphNamesUptoSaid : Prop := graphNamesUptoRow.holds Try.pinned (OpenSpec.upto graphNamesSpec)

/-- 'gatehouselaw11.GraphCompile', WHERE WHAT IT READS IS OF BULK AT MOST 1048576: true; the input reads as it did. -/
def graphCompileUptoRow : OpenClaim := { program := "ythaiodklfoegiaa", sum := "942046621b464d400df4bd730c270e282c55dffe5933f4fbe673bd75f469afb6", func := "gatehouse/gatehouselaw11.GraphCompile", spec := "graphCompile", unfollowed := true, recurses := true, plainKeys := false, apart := false, narrowed := true }
def GraphCompileUptoSaid : Prop := graphCompileUptoRow.holds Try.pinned (OpenSpec.upto graphCompileSpec)

/-- 'gatehouselaw11.GraphOne', WHERE WHAT IT READS IS OF BULK AT MOST 1048576: true; the input reads as it did. -/
def graphOneUptoRow : OpenClaim := { program := "ythaiodklfoegiaa", sum := "942046621b464d400df4bd730c270e282c55dffe5933f4fbe673bd75f469afb6", func := "gatehouse/gatehouselaw11.GraphOne", spec := "graphOne", unfollowed := true, recurses := true, plainKeys := false, apart := false, narrowed := true }
def GraphOneUptoSaid : Prop := graphOneUptoRow.holds Try.pinned (OpenSpec.upto graphOneSpec)

/-- 'gatehouselaw11.GraphSays', WHERE WHAT IT READS IS OF BULK AT MOST 1048576: true; the input reads as it did. -/
def graphSaysUptoRow : OpenClaim := { program := "ythaiodklfoegiaa", sum := "942046621b464d400df4bd730c270e282c55dffe5933f4fbe673bd75f469afb6", func := "gatehouse/gatehouselaw11.GraphSays", spec := "graphSays", unfollowed := true, recurses := true, plainKeys := false, apart := false, narrowed := true }
def GraphSaysUptoSaid : Prop := graphSaysUptoRow.holds Try.pinned (OpenSpec.upto graphSaysSpec)

/-- 'gatehouselaw11.GraphClasses', WHERE WHAT IT READS IS OF BULK AT MOST 1048576: true; the input reads as it did. -/
def graphClassesUptoRow : OpenClaim := { program := "ythaiodklfoegiaa", sum := "942046621b464d400df4bd730c270e282c55dffe5933f4fbe673bd75f469afb6", func := "gatehouse/gatehouselaw11.GraphClasses", spec := "graphClasses", unfollowed := true, recurses := true, plainKeys := false, apart := false, narrowed := true }
def GraphClassesUptoSaid : Prop := graphClassesUptoRow.holds Try.pinned (OpenSpec.upto graphClassesSpec)

end Rows
end Go.Proofs.Ythaiodklfoegiaa
