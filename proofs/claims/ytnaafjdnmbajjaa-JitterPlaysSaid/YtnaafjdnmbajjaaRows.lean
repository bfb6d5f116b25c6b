/-
  No cell of these rows narrows 'for every input' (looked for: loops, veiled, ifaces, maps, wideKeys, modest, calm, conditions, laid).
  DERIVED. THE GIVEN ROWS OF THIS SEAT. 6 by the template 'for every input the law returns true; each argument reads behind the call as it read before'; 0 by the template 'total and deterministic' (their statements: YtnaafjdnmbajjaaTotals.lean).
  GIVEN WITH THE SEED: the statements are not yours to turn. If you find one false, say at which input.
  Laid BY PROGRAM, IN A SANDBOX (cutbox-rows.mjs): the forced cells as the released guide's own fill.sh prints them over the translation 127931a80aa331f1… (all of the seat's roots in one cut). By AI agents, Wed Nov 11 2026. No macro, syntax, notation, axiom, sorry.
-/
import Derived.Test.YtnaafjdnmbajjaaChecked
import GoSem.Claim
import GoSem.ClaimJoined
import GoSem.ClaimMapViews
import Derived.JoinedTies
import Derived.KernelRfl
namespace Go.Proofs.Ytnaafjdnmbajjaa
/- THE CELL 'sum', in the pinned program and in every row, IS THE sha256 OF THE DUMP (.gsa) THAT YtnaafjdnmbajjaaProg.lean LOADS. Nothing in Lean hashes anything: it is a label: what it is worth is what the hold of that sum in a sandbox is worth. -/
noncomputable def Try.pinned : Pinned := { name := "ytnaafjdnmbajjaa", sum := "127931a80aa331f19a6ad7589ec8a16b007561e012fd5501be150e8b34cd373b", checked := Try.checked }
namespace Rows
def none {H : Type} : Left H := { results := [], args := [] }

/-- 'dialtonelaw30.JitterPuts': WHATEVER THE INPUT: true; the input reads as it did. -/
def jitterPutsSpec : ChangeSpec := { name := "jitterPuts", fn := fun _ => fun
  | [d1, d2, d3] => { results := [.lit (.bool true)], args := [d1, d2, d3] }
  | _ => none }
def jitterPutsRow : OpenClaim := { program := "ytnaafjdnmbajjaa", sum := "127931a80aa331f19a6ad7589ec8a16b007561e012fd5501be150e8b34cd373b", func := "dialtone/dialtonelaw30.JitterPuts", spec := "jitterPuts", inPlace := ["slices.overlaps[dialtone/api.Waiting]"], unfollowed := true, recurses := true, apart := false }
def JitterPutsSaid : Prop := jitterPutsRow.holds Try.pinned (OpenSpec.ofChange jitterPutsSpec)

/-- ITS FALSE NEIGHBOUR: 'it returns false'. Refute it at one input. -/
def jitterPutsWrong : ChangeSpec := { name := "jitterPuts", fn := fun _ => fun
  | [d1, d2, d3] => { results := [.lit (.bool false)], args := [d1, d2, d3] }
  | _ => none }
def JitterPutsWrongFalsely : Prop := jitterPutsRow.holds Try.pinned (OpenSpec.ofChange jitterPutsWrong)

/-- 'dialtonelaw30.JitterRuns': WHATEVER THE INPUT: true; the input reads as it did. -/
def jitterRunsSpec : ChangeSpec := { name := "jitterRuns", fn := fun _ => fun
  | [d1, d2] => { results := [.lit (.bool true)], args := [d1, d2] }
  | _ => none }
def jitterRunsRow : OpenClaim := { program := "ytnaafjdnmbajjaa", sum := "127931a80aa331f19a6ad7589ec8a16b007561e012fd5501be150e8b34cd373b", func := "dialtone/dialtonelaw30.JitterRuns", spec := "jitterRuns", inPlace := ["slices.overlaps[dialtone/api.Waiting]"], unfollowed := true, recurses := true, apart := false }
def JitterRunsSaid : Prop := jitterRunsRow.holds Try.pinned (OpenSpec.ofChange jitterRunsSpec)

/-- ITS FALSE NEIGHBOUR: 'it returns false'. Refute it at one input. -/
def jitterRunsWrong : ChangeSpec := { name := "jitterRuns", fn := fun _ => fun
  | [d1, d2] => { results := [.lit (.bool false)], args := [d1, d2] }
  | _ => none }
def JitterRunsWrongFalsely : Prop := jitterRunsRow.holds Try.pinned (OpenSpec.ofChange jitterRunsWrong)

/-- 'dialtonelaw30.JitterSteady': WHATEVER THE INPUT: true; the input reads as it did. -/
def jitterSteadySpec : ChangeSpec := { name := "jitterSteady", fn := fun _ => fun
  | [d1, d2, d3, d4] => { results := [.lit (.bool true)], args := [d1, d2, d3, d4] }
  | _ => none }
def jitterSteadyRow : OpenClaim := { program := "ytnaafjdnmbajjaa", sum := "127931a80aa331f19a6ad7589ec8a16b007561e012fd5501be150e8b34cd373b", func := "dialtone/dialtonelaw30.JitterSteady", spec := "jitterSteady", inPlace := ["slices.overlaps[dialtone/api.Waiting]"], unfollowed := true, recurses := true, apart := false }
def JitterSteadySaid : Prop := jitterSteadyRow.holds Try.pinned (OpenSpec.ofChange jitterSteadySpec)

/-- ITS FALSE NEIGHBOUR: 'it returns false'. Refute it at one input. -/
def jitterSteadyWrong : ChangeSpec := { name := "jitterSteady", fn := fun _ => fun
  | [d1, d2, d3, d4] => { results := [.lit (.bool false)], args := [d1, d2, d3, d4] }
  | _ => none }
def JitterSteadyWrongFalsely : Prop := jitterSteadyRow.holds Try.pinned (OpenSpec.ofChange jitterSteadyWrong)

/-- 'dialtonelaw30.JitterKnown': WHATEVER THE INPUT: true; the input reads as it did. -/
def jitterKnownSpec : ChangeSpec := { name := "jitterKnown", fn := fun _ => fun
  | [] => { results := [.lit (.bool true)], args := [] }
  | _ => none }
def jitterKnownRow : OpenClaim := { program := "ytnaafjdnmbajjaa", sum := "127931a80aa331f19a6ad7589ec8a16b007561e012fd5501be150e8b34cd373b", func := "dialtone/dialtonelaw30.JitterKnown", spec := "jitterKnown", inPlace := ["slices.overlaps[dialtone/api.Waiting]"], unfollowed := true, recurses := true, apart := false }
def JitterKnownSaid : Prop := jitterKnownRow.holds Try.pinned (OpenSpec.ofChange jitterKnownSpec)

/-- ITS FALSE NEIGHBOUR: 'it returns false'. Refute it at one input. -/
def jitterKnownWrong : ChangeSpec := { name := "jitterKnown", fn := fun _ => fun
  | [] => { results := [.lit (.bool false)], args := [] }
  | _ => none }
def JitterKnownWrongFalsely : Prop := jitterKnownRow.holds Try.pinned (OpenSpec.ofChange jitterKnownWrong)

/-- 'dialtonelaw30.JitterStates': WHATEVER THE INPUT: true; the input reads as it did. -/
def jitterStatesSpec : ChangeSpec := { name := "jitterStates", fn := fun _ => fun
  | [d1, d2, d3] => { results := [.lit (.bool true)], args := [d1, d2, d3] }
  | _ => none }
def jitterStatesRow : OpenClaim := { program := "ytnaafjdnmbajjaa", sum := "127931a80aa331f19a6ad7589ec8a16b007561e012fd5501be150e8b34cd373b", func := "dialtone/dialtonelaw30.JitterStates", spec := "jitterStates", inPlace := ["slices.overlaps[dialtone/api.Waiting]"], unfollowed := true, recurses := true, apart := false }
def JitterStatesSaid : Prop := jitterStatesRow.holds Try.pinned (OpenSpec.ofChange jitterStatesSpec)

/-- ITS FALSE NEIGHBOUR: 'it returns false'. Refute it at one input. -/
def jitterStatesWrong : ChangeSpec := { name := "jitterStates", fn := fun _ => fun
  | [d1, d2, d3] => { results := [.lit (.bool false)], args := [d1, d2, d3] }
  | _ => none }
def JitterStatesWrongFalsely : Prop := jitterStatesRow.holds Try.pinned (OpenSpec.ofChange jitterStatesWrong)

/-- 'dialtonelaw30.JitterPlays': WHATEVER THE INPUT: true; the input reads as it did. -/
def jitterPlaysSpec : ChangeSpec := { name := "jitterPlays", fn := fun _ => fun
  | [d1, d2] => { results := [.lit (.bool true)], args := [d1, d2] }
  | _ => none }
def jitterPlaysRow : OpenClaim := { program := "ytnaafjdnmbajjaa", sum := "127931a80aa331f19a6ad7589ec8a16b007561e012fd5501be150e8b34cd373b", func := "dialtone/dialtonelaw30.JitterPlays", spec := "jitterPlays", inPlace := ["slices.overlaps[dialtone/api.Waiting]"], unfollowed := true, recurses := true, apart := false }
def JitterPlaysSaid : Prop := jitterPlaysRow.holds Try.pinned (OpenSpec.ofChange jitterPlaysSpec)

/-- ITS FALSE NEIGHBOUR: 'it returns false'. Refute it at one input. -/
def jitterPlaysWrong : ChangeSpec := { name := "jitterPlays", fn := fun _ => fun
  | [d1, d2] => { results := [.lit (.bool false)], args := [d1, d2] }
  | _ => none }
def JitterPlaysWrongFalsely : Prop := jitterPlaysRow.holds Try.pinned (OpenSpec.ofChange jitterPlaysWrong)

/- THE SECOND FORM. 'bulk': how many values and letters a reading holds, each counted each time it is reached (what is shared counts as often as it is met; a slice's spare places count too). A statement '..UptoSaid' is the law's where the arguments, and the package variables that the reading takes, are together of bulk at most 1048576: NARROWER than '..Said'. Prove '..Said' where nothing that the law and all that it calls make is longer than what came in: it says more and counts as full. Else prove '..UptoSaid'. A law counts once. -/
mutual
def uptoBulk {H : Type} : DataW H → Nat
  | .lit (.string bytes) => bytes.length + 1
  | .lit _ => 1
  | .nil => 1
  | .ptr d => uptoBulk d + 1
  | .slice elems spare => uptoBulkAll elems + uptoBulkAll spare + 1
  | .agg parts => uptoBulkAll parts + 1
  | .iface _ d => uptoBulk d + 1
  | .map entries => uptoBulkEntries entries + 1
  | .held _ => 1
def uptoBulkAll {H : Type} : List (DataW H) → Nat
  | [] => 0
  | d :: r => uptoBulk d + uptoBulkAll r
def uptoBulkEntries {H : Type} : List (Lit × DataW H) → Nat
  | [] => 0
  | x :: r => uptoBulkEntry x + uptoBulkEntries r
def uptoBulkEntry {H : Type} : Lit × DataW H → Nat
  | (.string bytes, d) => bytes.length + uptoBulk d + 1
  | (_, d) => uptoBulk d + 1
 end
def uptoSmall : (H : Type) → List (DataW H) → Bool := fun _ ds => decide (uptoBulkAll ds ≤ 1048576)
def OpenSpec.upto (s : _root_.Go.ChangeSpec) : _root_.Go.OpenSpec := { _root_.Go.OpenSpec.ofChange s with cond := some uptoSmall }

/-- 'dialtonelaw30.JitterPuts', WHERE WHAT IT READS IS OF BULK AT MOST 1048576: true; the input reads as it did. -/
def jitterPutsUptoRow : OpenClaim := { program := "ytnaafjdnmbajjaa", sum := "127931a80aa331f19a6ad7589ec8a16b007561e012fd5501be150e8b34cd373b", func := "dialtone/dialtonelaw30.JitterPuts", spec := "jitterPuts", inPlace := ["slices.overlaps[dialtone/api.Waiting]"], unfollowed := true, recurses := true, apart := false, narrowed := true }
def JitterPutsUptoSaid : Prop := jitterPutsUptoRow.holds Try.pinned (OpenSpec.upto jitterPutsSpec)

/-- 'dialtonelaw30.JitterRuns', WHERE WHAT IT READS IS OF BULK AT MOST 1048576: true; the input reads as it did. -/
def jitterRunsUptoRow : OpenClaim := { program := "ytnaafjdnmbajjaa", sum := "127931a80aa331f19a6ad7589ec8a16b007561e012fd5501be150e8b34cd373b", func := "dialtone/dialtonelaw30.JitterRuns", spec := "jitterRuns", inPlace := ["slices.overlaps[dialtone/api.Waiting]"], unfollowed := true, recurses := true, apart := false, narrowed := true }
def JitterRunsUptoSaid : Prop := jitterRunsUptoRow.holds Try.pinned (OpenSpec.upto jitterRunsSpec)

/-- 'dialtonelaw30.JitterSteady', WHERE WHAT IT READS IS OF BULK AT MOST 1048576: true; the input reads as it did. -/
def jitterSteadyUptoRow : OpenClaim := { program := "ytnaafjdnmbajjaa", sum := "127931a80aa331f19a6ad7589ec8a16b007561e012fd5501be150e8b34cd373b", func := "dialtone/dialtonelaw30.JitterSteady", spec := "jitterSteady", inPlace := ["slices.overlaps[dialtone/api.Waiting]"], unfollowed := true, recurses := true, apart := false, narrowed := true }
def JitterSteadyUptoSaid : Prop := jitterSteadyUptoRow.holds Try.pinned (OpenSpec.upto jitterSteadySpec)

/-- 'dialtonelaw30.JitterKnown', WHERE WHAT IT READS IS OF BULK AT MOST 1048576: true; the input reads as it did. -/
def jitterKnownUptoRow : OpenClaim := { program := "ytnaafjdnmbajjaa", sum := "127931a80aa331f19a6ad7589ec8a16b007561e012fd5501be150e8b34cd373b", func := "dialtone/dialtonelaw30.JitterKnown", spec := "jitterKnown", inPlace := ["slices.overlaps[dialtone/api.Waiting]"], unfollowed := true, recurses := true, apart := false, narrowed := true }
def JitterKnownUptoSaid : Prop := jitterKnownUptoRow.holds Try.pinned (OpenSpec.upto jitterKnownSpec)

/-- 'dialtonelaw30.JitterStates', WHERE WHAT IT READS IS OF BULK AT MOST 1048576: true; the input reads as it did. -/
def jitterStatesUptoRow : OpenClaim := { program := "ytnaafjdnmbajjaa", sum := "127931a80aa331f19a6ad7589ec8a16b007561e012fd5501be150e8b34cd373b", func := "dialtone/dialtonelaw30.JitterStates", spec := "jitterStates", inPlace := ["slices.overlaps[dialtone/api.Waiting]"], unfollowed := true, recurses := true, apart := false, narrowed := true }
def JitterStatesUptoSaid : Prop := jitterStatesUptoRow.holds Try.pinned (OpenSpec.upto jitterStatesSpec)

/-- 'dialtonelaw30.JitterPlays', WHERE WHAT IT READS IS OF BULK AT MOST 1048576: true; the input reads as it did. -/
def jitterPlaysUptoRow : OpenClaim := { program := "ytnaafjdnmbajjaa", sum := "127931a80aa331f19a6ad7589ec8a16b007561e012fd5501be150e8b34cd373b", func := "dialtone/dialtonelaw30.JitterPlays", spec := "jitterPlays", inPlace := ["slices.overlaps[dialtone/api.Waiting]"], unfollowed := true, recurses := true, apart := false, narrowed := true }
def JitterPlaysUptoSaid : Prop := jitterPlaysUptoRow.holds Try.pinned (OpenSpec.upto jitterPlaysSpec)

end Rows
end Go.Proofs.Ytnaafjdnmbajjaa
