/-
  No cell of these rows narrows 'for every input' (looked for: loops, veiled, ifaces, maps, wideKeys, modest, calm, conditions, laid).
  DERIVED. THE GIVEN ROWS OF THIS SEAT. 6 by the template 'for every input the law returns true; each argument reads behind the call as it read before'; 0 by the template 'total and deterministic' (their statements: YtcnijhcoifodpaaTotals.lean).
  GIVEN WITH THE SEED: the statements are not yours to turn. If you find one false, say at which input.
  Laid BY PROGRAM, IN A SANDBOX (cutbox-rows.mjs): the forced cells as the released guide's own fill.sh prints them over the translation a9b162d091973092… (all of the seat's roots in one cut). By AI agents, Wed Nov 11 2026. No macro, syntax, notation, axiom, sorry.
-/
import Derived.Test.YtcnijhcoifodpaaChecked
import GoSem.Claim
import GoSem.ClaimJoined
import GoSem.ClaimMapViews
import Derived.JoinedTies
import Derived.KernelRfl
namespace Go.Proofs.Ytcnijhcoifodpaa
/- THE CELL 'sum', in the pinned program and in every row, IS THE sha256 OF THE DUMP (.gsa) THAT YtcnijhcoifodpaaProg.lean LOADS. Nothing in Lean hashes anything: it is a label: what it is worth is what the hold of that sum in a sandbox is worth. -/
noncomputable def Try.pinned : Pinned := { name := "ytcnijhcoifodpaa", sum := "a9b162d0919730926c073a5ef12738d15196a688e3f353201a0ca1e1358c1d18", checked := Try.checked }
namespace Rows
def none {H : Type} : Left H := { results := [], args := [] }

/-- 'dialtonelaw28.DeltaNear': WHATEVER THE INPUT: true; the input reads as it did. -/
def deltaNearSpec : ChangeSpec := { name := "deltaNear", fn := fun _ => fun
  | [d1, d2] => { results := [.lit (.bool true)], args := [d1, d2] }
  | _ => none }
def deltaNearRow : OpenClaim := { program := "ytcnijhcoifodpaa", sum := "a9b162d0919730926c073a5ef12738d15196a688e3f353201a0ca1e1358c1d18", func := "dialtone/dialtonelaw28.DeltaNear", spec := "deltaNear", unfollowed := true, recurses := true, apart := false }
def DeltaNearSaid : Prop := deltaNearRow.holds Try.pinned (OpenSpec.ofChange deltaNearSpec)

/-- ITS FALSE NEIGHBOUR: 'it returns false'. Refute it at one input. -/
def deltaNearWrong : ChangeSpec := { name := "deltaNear", fn := fun _ => fun
  | [d1, d2] => { results := [.lit (.bool false)], args := [d1, d2] }
  | _ => none }
def DeltaNearWrongFalsely : Prop := deltaNearRow.holds Try.pinned (OpenSpec.ofChange deltaNearWrong)

/-- 'dialtonelaw28.DeltaCodes': WHATEVER THE INPUT: true; the input reads as it did. -/
def deltaCodesSpec : ChangeSpec := { name := "deltaCodes", fn := fun _ => fun
  | [d1, d2, d3] => { results := [.lit (.bool true)], args := [d1, d2, d3] }
  | _ => none }
def deltaCodesRow : OpenClaim := { program := "ytcnijhcoifodpaa", sum := "a9b162d0919730926c073a5ef12738d15196a688e3f353201a0ca1e1358c1d18", func := "dialtone/dialtonelaw28.DeltaCodes", spec := "deltaCodes", unfollowed := true, recurses := true, apart := false }
def DeltaCodesSaid : Prop := deltaCodesRow.holds Try.pinned (OpenSpec.ofChange deltaCodesSpec)

/-- ITS FALSE NEIGHBOUR: 'it returns false'. Refute it at one input. -/
def deltaCodesWrong : ChangeSpec := { name := "deltaCodes", fn := fun _ => fun
  | [d1, d2, d3] => { results := [.lit (.bool false)], args := [d1, d2, d3] }
  | _ => none }
def DeltaCodesWrongFalsely : Prop := deltaCodesRow.holds Try.pinned (OpenSpec.ofChange deltaCodesWrong)

/-- 'dialtonelaw28.DeltaSteps': WHATEVER THE INPUT: true; the input reads as it did. -/
def deltaStepsSpec : ChangeSpec := { name := "deltaSteps", fn := fun _ => fun
  | [d] => { results := [.lit (.bool true)], args := [d] }
  | _ => none }
def deltaStepsRow : OpenClaim := { program := "ytcnijhcoifodpaa", sum := "a9b162d0919730926c073a5ef12738d15196a688e3f353201a0ca1e1358c1d18", func := "dialtone/dialtonelaw28.DeltaSteps", spec := "deltaSteps", unfollowed := true, recurses := true, apart := false }
def DeltaStepsSaid : Prop := deltaStepsRow.holds Try.pinned (OpenSpec.ofChange deltaStepsSpec)

/-- ITS FALSE NEIGHBOUR: 'it returns false'. Refute it at one input. -/
def deltaStepsWrong : ChangeSpec := { name := "deltaSteps", fn := fun _ => fun
  | [d] => { results := [.lit (.bool false)], args := [d] }
  | _ => none }
def DeltaStepsWrongFalsely : Prop := deltaStepsRow.holds Try.pinned (OpenSpec.ofChange deltaStepsWrong)

/-- 'dialtonelaw28.DeltaBlocks': WHATEVER THE INPUT: true; the input reads as it did. -/
def deltaBlocksSpec : ChangeSpec := { name := "deltaBlocks", fn := fun _ => fun
  | [d1, d2, d3, d4] => { results := [.lit (.bool true)], args := [d1, d2, d3, d4] }
  | _ => none }
def deltaBlocksRow : OpenClaim := { program := "ytcnijhcoifodpaa", sum := "a9b162d0919730926c073a5ef12738d15196a688e3f353201a0ca1e1358c1d18", func := "dialtone/dialtonelaw28.DeltaBlocks", spec := "deltaBlocks", unfollowed := true, recurses := true, apart := false }
def DeltaBlocksSaid : Prop := deltaBlocksRow.holds Try.pinned (OpenSpec.ofChange deltaBlocksSpec)

/-- ITS FALSE NEIGHBOUR: 'it returns false'. Refute it at one input. -/
def deltaBlocksWrong : ChangeSpec := { name := "deltaBlocks", fn := fun _ => fun
  | [d1, d2, d3, d4] => { results := [.lit (.bool false)], args := [d1, d2, d3, d4] }
  | _ => none }
def DeltaBlocksWrongFalsely : Prop := deltaBlocksRow.holds Try.pinned (OpenSpec.ofChange deltaBlocksWrong)

/-- 'dialtonelaw28.DeltaDivides': WHATEVER THE INPUT: true; the input reads as it did. -/
def deltaDividesSpec : ChangeSpec := { name := "deltaDivides", fn := fun _ => fun
  | [d1, d2, d3] => { results := [.lit (.bool true)], args := [d1, d2, d3] }
  | _ => none }
def deltaDividesRow : OpenClaim := { program := "ytcnijhcoifodpaa", sum := "a9b162d0919730926c073a5ef12738d15196a688e3f353201a0ca1e1358c1d18", func := "dialtone/dialtonelaw28.DeltaDivides", spec := "deltaDivides", unfollowed := true, recurses := true, apart := false }
def DeltaDividesSaid : Prop := deltaDividesRow.holds Try.pinned (OpenSpec.ofChange deltaDividesSpec)

/-- ITS FALSE NEIGHBOUR: 'it returns false'. Refute it at one input. -/
def deltaDividesWrong : ChangeSpec := { name := "deltaDivides", fn := fun _ => fun
  | [d1, d2, d3] => { results := [.lit (.bool false)], args := [d1, d2, d3] }
  | _ => none }
def DeltaDividesWrongFalsely : Prop := deltaDividesRow.holds Try.pinned (OpenSpec.ofChange deltaDividesWrong)

/-- 'dialtonelaw28.DeltaKnown': WHATEVER THE INPUT: true; the input reads as it did. -/
def deltaKnownSpec : ChangeSpec := { name := "deltaKnown", fn := fun _ => fun
  | [] => { results := [.lit (.bool true)], args := [] }
  | _ => none }
def deltaKnownRow : OpenClaim := { program := "ytcnijhcoifodpaa", sum := "a9b162d0919730926c073a5ef12738d15196a688e3f353201a0ca1e1358c1d18", func := "dialtone/dialtonelaw28.DeltaKnown", spec := "deltaKnown", unfollowed := true, recurses := true, apart := false }
def DeltaKnownSaid : Prop := deltaKnownRow.holds Try.pinned (OpenSpec.ofChange deltaKnownSpec)

/-- ITS FALSE NEIGHBOUR: 'it returns false'. Refute it at one input. -/
def deltaKnownWrong : ChangeSpec := { name := "deltaKnown", fn := fun _ => fun
  | [] => { results := [.lit (.bool false)], args := [] }
  | _ => none }
def DeltaKnownWrongFalsely : Prop := deltaKnownRow.holds Try.pinned (OpenSpec.ofChange deltaKnownWrong)

/- THE SECOND FORM. 'bulk': how many values and letters a reading holds, each counted each time it is reached (what is shared counts as often as it is met; a slice's spare places count too). A statement '..UptoSaid' is the law's where the arguments, and the package variables that the reading takes, are together of bulk at most 1048576: NARROWER than '..Said'. Prove '..Said' where nothing that the law and all that it calls make is longer than what came in: it says more and counts as full. Else prove '..UptoSaid'. A law counts once. -/
mutual
def uptoBulk {H : Type} : DataW H → Nat
  | .lit (.string bytes) => bytes.length + 1
  | .lit _ => 1
  | .nil => 1
  | .ptr d => uptoBulk d + 1
  | .slice elems spare => uptoBulkAll elems + uptoBulkAll spare + 1
  | .agg parts => uptoBulkAll parts + 1
  | .iface _ d => uptoBulk d + 1
  | .map entries => uptoBulkEntries entries + 1
  | .held _ => 1
def uptoBulkAll {H : Type} : List (DataW H) → Nat
  | [] => 0
  | d :: r => uptoBulk d + uptoBulkAll r
def uptoBulkEntries {H : Type} : List (Lit × DataW H) → Nat
  | [] => 0
  | x :: r => uptoBulkEntry x + uptoBulkEntries r
def uptoBulkEntry {H : Type} : Lit × DataW H → Nat
  | (.string bytes, d) => bytes.length + uptoBulk d + 1
  | (_, d) => uptoBulk d + 1
 end
def uptoSmall : (H : Type) → List (DataW H) → Bool := fun _ ds => decide (uptoBulkAll ds ≤ 1048576)
def OpenSpec.upto (s : _root_.Go.ChangeSpec) : _root_.Go.OpenSpec := { _root_.Go.OpenSpec.ofChange s with cond := some uptoSmall }

/-- 'dialtonelaw28.DeltaNear', WHERE WHAT IT READS IS OF BULK AT MOST 1048576: true; the input reads as it did. -/
def deltaNearUptoRow : OpenClaim := { program := "ytcnijhcoifodpaa", sum := "a9b162d0919730926c073a5ef12738d15196a688e3f353201a0ca1e1358c1d18", func := "dialtone/dialtonelaw28.DeltaNear", spec := "deltaNear", unfollowed := true, recurses := true, apart := false, narrowed := true }
def DeltaNearUptoSaid : Prop := deltaNearUptoRow.holds Try.pinned (OpenSpec.upto deltaNearSpec)

/-- 'dialtonelaw28.DeltaCodes', WHERE WHAT IT READS IS OF BULK AT MOST 1048576: true; the input reads as it did. -/
def deltaCodesUptoRow : OpenClaim := { program := "ytcnijhcoifodpaa", sum := "a9b162d0919730926c073a5ef12738d15196a688e3f353201a0ca1e1358c1d18", func := "dialtone/dialtonelaw28.DeltaCodes", spec := "deltaCodes", unfollowed := true, recurses := true, apart := false, narrowed := true }
def DeltaCodesUptoSaid : Prop := deltaCodesUptoRow.holds Try.pinned (OpenSpec.upto deltaCodesSpec)

/-- 'dialtonelaw28.DeltaSteps', WHERE WHAT IT READS IS OF BULK AT MOST 1048576: true; the input reads as it did. -/
def deltaStepsUptoRow : OpenClaim := { program := "ytcnijhcoifodpaa", sum := "a9b162d0919730926c073a5ef12738d15196a688e3f353201a0ca1e1358c1d18", func := "dialtone/dialtonelaw28.DeltaSteps", spec := "deltaSteps", unfollowed := true, recurses := true, apart := false, narrowed := true }
def DeltaStepsUptoSaid : Prop := deltaStepsUptoRow.holds Try.pinned (OpenSpec.upto deltaStepsSpec)

/-- 'dialtonelaw28.DeltaBlocks', WHERE WHAT IT READS IS OF BULK AT MOST 1048576: true; the input reads as it did. -/
def deltaBlocksUptoRow : OpenClaim := { program := "ytcnijhcoifodpaa", sum := "a9b162d0919730926c073a5ef12738d15196a688e3f353201a0ca1e1358c1d18", func := "dialtone/dialtonelaw28.DeltaBlocks", spec := "deltaBlocks", unfollowed := true, recurses := true, apart := false, narrowed := true }
def DeltaBlocksUptoSaid : Prop := deltaBlocksUptoRow.holds Try.pinned (OpenSpec.upto deltaBlocksSpec)

/-- 'dialtonelaw28.DeltaDivides', WHERE WHAT IT READS IS OF BULK AT MOST 1048576: true; the input reads as it did. -/
def deltaDividesUptoRow : OpenClaim := { program := "ytcnijhcoifodpaa", sum := "a9b162d0919730926c073a5ef12738d15196a688e3f353201a0ca1e1358c1d18", func := "dialtone/dialtonelaw28.DeltaDivides", spec := "deltaDivides", unfollowed := true, recurses := true, apart := false, narrowed := true }
def DeltaDividesUptoSaid : Prop := deltaDividesUptoRow.holds Try.pinned (OpenSpec.upto deltaDividesSpec)

/-- 'dialtonelaw28.DeltaKnown', WHERE WHAT IT READS IS OF BULK AT MOST 1048576: true; the input reads as it did. -/
def deltaKnownUptoRow : OpenClaim := { program := "ytcnijhcoifodpaa", sum := "a9b162d0919730926c073a5ef12738d15196a688e3f353201a0ca1e1358c1d18", func := "dialtone/dialtonelaw28.DeltaKnown", spec := "deltaKnown", unfollowed := true, recurses := true, apart := false, narrowed := true }
def DeltaKnownUptoSaid : Prop := deltaKnownUptoRow.holds Try.pinned (OpenSpec.upto deltaKnownSpec)

end Rows
end Go.Proofs.Ytcnijhcoifodpaa
