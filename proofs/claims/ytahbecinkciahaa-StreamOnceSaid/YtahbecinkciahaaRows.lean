/-
  No cell of these rows narrows 'for every input' (looked for: loops, veiled, ifaces, maps, wideKeys, modest, calm, conditions, laid).
  DERIVED. THE GIVEN ROWS OF THIS SEAT. 3 by the template 'for every input the law returns true; each argument reads behind the call as it read before'; 0 by the template 'total and deterministic' (their statements: YtahbecinkciahaaTotals.lean).
  GIVEN WITH THE SEED: the statements are not yours to turn. If you find one false, say at which input.
  Laid BY PROGRAM, IN A SANDBOX (cutbox-rows.mjs): the forced cells as the released guide's own fill.sh prints them over the translation 40972eb0a365333d… (all of the seat's roots in one cut). By AI agents, Wed Nov 11 2026. No macro, syntax, notation, axiom, sorry.
-/
import Derived.Test.YtahbecinkciahaaChecked
import GoSem.Claim
import GoSem.ClaimJoined
import GoSem.ClaimMapViews
import Derived.JoinedTies
import Derived.KernelRfl
namespace Go.Proofs.Ytahbecinkciahaa
/- THE CELL 'sum', in the pinned program and in every row, IS THE sha256 OF THE DUMP (.gsa) THAT YtahbecinkciahaaProg.lean LOADS. Nothing in Lean hashes anything: it is a label: what it is worth is what the hold of that sum in a sandbox is worth. -/
noncomputable def Try.pinned : Pinned := { name := "ytahbecinkciahaa", sum := "40972eb0a365333db88d689076f019d4cdc38f8021c2e88520c7be708d7daf2d", checked := Try.checked }
namespace Rows
def none {H : Type} : Left H := { results := [], args := [] }

/-- 'dialtonelaw32.StreamNumbers': WHATEVER THE INPUT: true; the input reads as it did. -/
def streamNumbersSpec : ChangeSpec := { name := "streamNumbers", fn := fun _ => fun
  | [d1, d2] => { results := [.lit (.bool true)], args := [d1, d2] }
  | _ => none }
def streamNumbersRow : OpenClaim := { program := "ytahbecinkciahaa", sum := "40972eb0a365333db88d689076f019d4cdc38f8021c2e88520c7be708d7daf2d", func := "dialtone/dialtonelaw32.StreamNumbers", spec := "streamNumbers", inPlace := ["slices.overlaps[dialtone/api.Waiting]"], unfollowed := true, recurses := true, apart := false }
def StreamNumbersSaid : Prop := streamNumbersRow.holds Try.pinned (OpenSpec.ofChange streamNumbersSpec)

/-- ITS FALSE NEIGHBOUR: 'it returns false'. Refute it at one input. -/
def streamNumbersWrong : ChangeSpec := { name := "streamNumbers", fn := fun _ => fun
  | [d1, d2] => { results := [.lit (.bool false)], args := [d1, d2] }
  | _ => none }
def StreamNumbersWrongFalsely : Prop := streamNumbersRow.holds Try.pinned (OpenSpec.ofChange streamNumbersWrong)

/-- 'dialtonelaw32.StreamOnce': WHATEVER THE INPUT: true; the input reads as it did. -/
def streamOnceSpec : ChangeSpec := { name := "streamOnce", fn := fun _ => fun
  | [d1, d2, d3] => { results := [.lit (.bool true)], args := [d1, d2, d3] }
  | _ => none }
def streamOnceRow : OpenClaim := { program := "ytahbecinkciahaa", sum := "40972eb0a365333db88d689076f019d4cdc38f8021c2e88520c7be708d7daf2d", func := "dialtone/dialtonelaw32.StreamOnce", spec := "streamOnce", inPlace := ["slices.overlaps[dialtone/api.Waiting]"], unfollowed := true, recurses := true, apart := false }
def StreamOnceSaid : Prop := streamOnceRow.holds Try.pinned (OpenSpec.ofChange streamOnceSpec)

/-- ITS FALSE NEIGHBOUR: 'it returns false'. Refute it at one input. -/
def streamOnceWrong : ChangeSpec := { name := "streamOnce", fn := fun _ => fun
  | [d1, d2, d3] => { results := [.lit (.bool false)], args := [d1, d2, d3] }
  | _ => none }
def StreamOnceWrongFalsely : Prop := streamOnceRow.holds Try.pinned (OpenSpec.ofChange streamOnceWrong)

/-- 'dialtonelaw32.StreamKnown': WHATEVER THE INPUT: true; the input reads as it did. -/
def streamKnownSpec : ChangeSpec := { name := "streamKnown", fn := fun _ => fun
  | [] => { results := [.lit (.bool true)], args := [] }
  | _ => none }
def streamKnownRow : OpenClaim := { program := "ytahbecinkciahaa", sum := "40972eb0a365333db88d689076f019d4cdc38f8021c2e88520c7be708d7daf2d", func := "dialtone/dialtonelaw32.StreamKnown", spec := "streamKnown", inPlace := ["slices.overlaps[dialtone/api.Waiting]"], unfollowed := true, recurses := true, apart := false }
def StreamKnownSaid : Prop := streamKnownRow.holds Try.pinned (OpenSpec.ofChange streamKnownSpec)

/-- ITS FALSE NEIGHBOUR: 'it returns false'. Refute it at one input. -/
def streamKnownWrong : ChangeSpec := { name := "streamKnown", fn := fun _ => fun
  | [] => { results := [.lit (.bool false)], args := [] }
  | _ => none }
def StreamKnownWrongFalsely : Prop := streamKnownRow.holds Try.pinned (OpenSpec.ofChange streamKnownWrong)

/- THE SECOND FORM. 'bulk': how many values and letters a reading holds, each counted each time it is reached (what is shared counts as often as it is met; a slice's spare places count too). A statement '..UptoSaid' is the law's where the arguments, and the package variables that the reading takes, are together of bulk at most 1048576: NARROWER than '..Said'. Prove '..Said' where nothing that the law and all that it calls make is longer than what came in: it says more and counts as full. Else prove '..UptoSaid'. A law counts once. -/
mutual
def uptoBulk {H : Type} : DataW H → Nat
  | .lit (.string bytes) => bytes.length + 1
  | .lit _ => 1
  | .nil => 1
  | .ptr d => uptoBulk d + 1
  | .slice elems spare => uptoBulkAll elems + uptoBulkAll spare + 1
  | .agg parts => uptoBulkAll parts + 1
  | .iface _ d => uptoBulk d + 1
  | .map entries => uptoBulkEntries entries + 1
  | .held _ => 1
def uptoBulkAll {H : Type} : List (DataW H) → Nat
  | [] => 0
  | d :: r => uptoBulk d + uptoBulkAll r
def uptoBulkEntries {H : Type} : List (Lit × DataW H) → Nat
  | [] => 0
  | x :: r => uptoBulkEntry x + uptoBulkEntries r
def uptoBulkEntry {H : Type} : Lit × DataW H → Nat
  | (.string bytes, d) => bytes.length + uptoBulk d + 1
  | (_, d) => uptoBulk d + 1
 end
def uptoSmall : (H : Type) → List (DataW H) → Bool := fun _ ds => decide (uptoBulkAll ds ≤ 1048576)
def OpenSpec.upto (s : _root_.Go.ChangeSpec) : _root_.Go.OpenSpec := { _root_.Go.OpenSpec.ofChange s with cond := some uptoSmall }

/-- 'dialtonelaw32.StreamNumbers', WHERE WHAT IT READS IS OF BULK AT MOST 1048576: true; the input reads as it did. -/
def streamNumbersUptoRow : OpenClaim := { program := "ytahbecinkciahaa", sum := "40972eb0a365333db88d689076f019d4cdc38f8021c2e88520c7be708d7daf2d", func := "dialtone/dialtonelaw32.StreamNumbers", spec := "streamNumbers", inPlace := ["slices.overlaps[dialtone/api.Waiting]"], unfollowed := true, recurses := true, apart := false, narrowed := true }
def StreamNumbersUptoSaid : Prop := streamNumbersUptoRow.holds Try.pinned (OpenSpec.upto streamNumbersSpec)

/-- 'dialtonelaw32.StreamOnce', WHERE WHAT IT READS IS OF BULK AT MOST 1048576: true; the input reads as it did. -/
def streamOnceUptoRow : OpenClaim := { program := "ytahbecinkciahaa", sum := "40972eb0a365333db88d689076f019d4cdc38f8021c2e88520c7be708d7daf2d", func := "dialtone/dialtonelaw32.StreamOnce", spec := "streamOnce", inPlace := ["slices.overlaps[dialtone/api.Waiting]"], unfollowed := true, recurses := true, apart := false, narrowed := true }
def StreamOnceUptoSaid : Prop := streamOnceUptoRow.holds Try.pinned (OpenSpec.upto streamOnceSpec)

/-- 'dialtonelaw32.StreamKnown', WHERE WHAT IT READS IS OF BULK AT MOST 1048576: true; the input reads as it did. -/
def streamKnownUptoRow : OpenClaim := { program := "ytahbecinkciahaa", sum := "40972eb0a365333db88d689076f019d4cdc38f8021c2e88520c7be708d7daf2d", func := "dialtone/dialtonelaw32.StreamKnown", spec := "streamKnown", inPlace := ["slices.overlaps[dialtone/api.Waiting]"], unfollowed := true, recurses := true, apart := false, narrowed := true }
def StreamKnownUptoSaid : Prop := streamKnownUptoRow.holds Try.pinned (OpenSpec.upto streamKnownSpec)

end Rows
end Go.Proofs.Ytahbecinkciahaa
