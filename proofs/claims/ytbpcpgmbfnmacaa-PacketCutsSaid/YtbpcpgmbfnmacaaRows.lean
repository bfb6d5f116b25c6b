/-
  No cell of these rows narrows 'for every input' (looked for: loops, veiled, ifaces, maps, wideKeys, modest, calm, conditions, laid).
  DERIVED. THE GIVEN ROWS OF THIS SEAT. 9 by the template 'for every input the law returns true; each argument reads behind the call as it read before'; 0 by the template 'total and deterministic' (their statements: YtbpcpgmbfnmacaaTotals.lean).
  GIVEN WITH THE SEED: the statements are not yours to turn. If you find one false, say at which input.
  Laid BY PROGRAM, IN A SANDBOX (cutbox-rows.mjs): the forced cells as the released guide's own fill.sh prints them over the translation 78609cc610a038b2… (all of the seat's roots in one cut). By AI agents, Wed Nov 11 2026. No macro, syntax, notation, axiom, sorry.
-/
import Derived.Test.YtbpcpgmbfnmacaaChecked
import GoSem.Claim
import GoSem.ClaimJoined
import GoSem.ClaimMapViews
import Derived.JoinedTies
import Derived.KernelRfl
namespace Go.Proofs.Ytbpcpgmbfnmacaa
/- THE CELL 'sum', in the pinned program and in every row, IS THE sha256 OF THE DUMP (.gsa) THAT YtbpcpgmbfnmacaaProg.lean LOADS. Nothing in Lean hashes anything: it is a label: what it is worth is what the hold of that sum in a sandbox is worth. -/
noncomputable def Try.pinned : Pinned := { name := "ytbpcpgmbfnmacaa", sum := "78609cc610a038b26d88a69356e7b69ce8edaa29c932fb1f3ff35488a24d1d95", checked := Try.checked }
namespace Rows
def none {H : Type} : Left H := { results := [], args := [] }

/-- 'dialtonelaw25.PacketEncodes': WHATEVER THE INPUT: true; the input reads as it did. -/
def packetEncodesSpec : ChangeSpec := { name := "packetEncodes", fn := fun _ => fun
  | [d] => { results := [.lit (.bool true)], args := [d] }
  | _ => none }
def packetEncodesRow : OpenClaim := { program := "ytbpcpgmbfnmacaa", sum := "78609cc610a038b26d88a69356e7b69ce8edaa29c932fb1f3ff35488a24d1d95", func := "dialtone/dialtonelaw25.PacketEncodes", spec := "packetEncodes", unfollowed := true, recurses := true, apart := false }
def PacketEncodesSaid : Prop := packetEncodesRow.holds Try.pinned (OpenSpec.ofChange packetEncodesSpec)

/-- ITS FALSE NEIGHBOUR: 'it returns false'. Refute it at one input. -/
def packetEncodesWrong : ChangeSpec := { name := "packetEncodes", fn := fun _ => fun
  | [d] => { results := [.lit (.bool false)], args := [d] }
  | _ => none }
def PacketEncodesWrongFalsely : Prop := packetEncodesRow.holds Try.pinned (OpenSpec.ofChange packetEncodesWrong)

/-- 'dialtonelaw25.PacketDecodes': WHATEVER THE INPUT: true; the input reads as it did. -/
def packetDecodesSpec : ChangeSpec := { name := "packetDecodes", fn := fun _ => fun
  | [d] => { results := [.lit (.bool true)], args := [d] }
  | _ => none }
def packetDecodesRow : OpenClaim := { program := "ytbpcpgmbfnmacaa", sum := "78609cc610a038b26d88a69356e7b69ce8edaa29c932fb1f3ff35488a24d1d95", func := "dialtone/dialtonelaw25.PacketDecodes", spec := "packetDecodes", unfollowed := true, recurses := true, apart := false }
def PacketDecodesSaid : Prop := packetDecodesRow.holds Try.pinned (OpenSpec.ofChange packetDecodesSpec)

/-- ITS FALSE NEIGHBOUR: 'it returns false'. Refute it at one input. -/
def packetDecodesWrong : ChangeSpec := { name := "packetDecodes", fn := fun _ => fun
  | [d] => { results := [.lit (.bool false)], args := [d] }
  | _ => none }
def PacketDecodesWrongFalsely : Prop := packetDecodesRow.holds Try.pinned (OpenSpec.ofChange packetDecodesWrong)

/-- 'dialtonelaw25.PacketBack': WHATEVER THE INPUT: true; the input reads as it did. -/
def packetBackSpec : ChangeSpec := { name := "packetBack", fn := fun _ => fun
  | [d1, d2] => { results := [.lit (.bool true)], args := [d1, d2] }
  | _ => none }
def packetBackRow : OpenClaim := { program := "ytbpcpgmbfnmacaa", sum := "78609cc610a038b26d88a69356e7b69ce8edaa29c932fb1f3ff35488a24d1d95", func := "dialtone/dialtonelaw25.PacketBack", spec := "packetBack", unfollowed := true, recurses := true, apart := false }
def PacketBackSaid : Prop := packetBackRow.holds Try.pinned (OpenSpec.ofChange packetBackSpec)

/-- ITS FALSE NEIGHBOUR: 'it returns false'. Refute it at one input. -/
def packetBackWrong : ChangeSpec := { name := "packetBack", fn := fun _ => fun
  | [d1, d2] => { results := [.lit (.bool false)], args := [d1, d2] }
  | _ => none }
def PacketBackWrongFalsely : Prop := packetBackRow.holds Try.pinned (OpenSpec.ofChange packetBackWrong)

/-- 'dialtonelaw25.PacketCuts': WHATEVER THE INPUT: true; the input reads as it did. -/
def packetCutsSpec : ChangeSpec := { name := "packetCuts", fn := fun _ => fun
  | [d1, d2] => { results := [.lit (.bool true)], args := [d1, d2] }
  | _ => none }
def packetCutsRow : OpenClaim := { program := "ytbpcpgmbfnmacaa", sum := "78609cc610a038b26d88a69356e7b69ce8edaa29c932fb1f3ff35488a24d1d95", func := "dialtone/dialtonelaw25.PacketCuts", spec := "packetCuts", unfollowed := true, recurses := true, apart := false }
def PacketCutsSaid : Prop := packetCutsRow.holds Try.pinned (OpenSpec.ofChange packetCutsSpec)

/-- ITS FALSE NEIGHBOUR: 'it returns false'. Refute it at one input. -/
def packetCutsWrong : ChangeSpec := { name := "packetCuts", fn := fun _ => fun
  | [d1, d2] => { results := [.lit (.bool false)], args := [d1, d2] }
  | _ => none }
def PacketCutsWrongFalsely : Prop := packetCutsRow.holds Try.pinned (OpenSpec.ofChange packetCutsWrong)

/-- 'dialtonelaw25.PacketTracks': WHATEVER THE INPUT: true; the input reads as it did. -/
def packetTracksSpec : ChangeSpec := { name := "packetTracks", fn := fun _ => fun
  | [d1, d2] => { results := [.lit (.bool true)], args := [d1, d2] }
  | _ => none }
def packetTracksRow : OpenClaim := { program := "ytbpcpgmbfnmacaa", sum := "78609cc610a038b26d88a69356e7b69ce8edaa29c932fb1f3ff35488a24d1d95", func := "dialtone/dialtonelaw25.PacketTracks", spec := "packetTracks", unfollowed := true, recurses := true, apart := false }
def PacketTracksSaid : Prop := packetTracksRow.holds Try.pinned (OpenSpec.ofChange packetTracksSpec)

/-- ITS FALSE NEIGHBOUR: 'it returns false'. Refute it at one input. -/
def packetTracksWrong : ChangeSpec := { name := "packetTracks", fn := fun _ => fun
  | [d1, d2] => { results := [.lit (.bool false)], args := [d1, d2] }
  | _ => none }
def PacketTracksWrongFalsely : Prop := packetTracksRow.holds Try.pinned (OpenSpec.ofChange packetTracksWrong)

/-- 'dialtonelaw25.PacketCounts': WHATEVER THE INPUT: true; the input reads as it did. -/
def packetCountsSpec : ChangeSpec := { name := "packetCounts", fn := fun _ => fun
  | [d1, d2] => { results := [.lit (.bool true)], args := [d1, d2] }
  | _ => none }
def packetCountsRow : OpenClaim := { program := "ytbpcpgmbfnmacaa", sum := "78609cc610a038b26d88a69356e7b69ce8edaa29c932fb1f3ff35488a24d1d95", func := "dialtone/dialtonelaw25.PacketCounts", spec := "packetCounts", unfollowed := true, recurses := true, apart := false }
def PacketCountsSaid : Prop := packetCountsRow.holds Try.pinned (OpenSpec.ofChange packetCountsSpec)

/-- ITS FALSE NEIGHBOUR: 'it returns false'. Refute it at one input. -/
def packetCountsWrong : ChangeSpec := { name := "packetCounts", fn := fun _ => fun
  | [d1, d2] => { results := [.lit (.bool false)], args := [d1, d2] }
  | _ => none }
def PacketCountsWrongFalsely : Prop := packetCountsRow.holds Try.pinned (OpenSpec.ofChange packetCountsWrong)

/-- 'dialtonelaw25.PacketExtends': WHATEVER THE INPUT: true; the input reads as it did. -/
def packetExtendsSpec : ChangeSpec := { name := "packetExtends", fn := fun _ => fun
  | [d1, d2, d3] => { results := [.lit (.bool true)], args := [d1, d2, d3] }
  | _ => none }
def packetExtendsRow : OpenClaim := { program := "ytbpcpgmbfnmacaa", sum := "78609cc610a038b26d88a69356e7b69ce8edaa29c932fb1f3ff35488a24d1d95", func := "dialtone/dialtonelaw25.PacketExtends", spec := "packetExtends", unfollowed := true, recurses := true, apart := false }
def PacketExtendsSaid : Prop := packetExtendsRow.holds Try.pinned (OpenSpec.ofChange packetExtendsSpec)

/-- ITS FALSE NEIGHBOUR: 'it returns false'. Refute it at one input. -/
def packetExtendsWrong : ChangeSpec := { name := "packetExtends", fn := fun _ => fun
  | [d1, d2, d3] => { results := [.lit (.bool false)], args := [d1, d2, d3] }
  | _ => none }
def PacketExtendsWrongFalsely : Prop := packetExtendsRow.holds Try.pinned (OpenSpec.ofChange packetExtendsWrong)

/-- 'dialtonelaw25.PacketOrders': WHATEVER THE INPUT: true; the input reads as it did. -/
def packetOrdersSpec : ChangeSpec := { name := "packetOrders", fn := fun _ => fun
  | [d1, d2] => { results := [.lit (.bool true)], args := [d1, d2] }
  | _ => none }
def packetOrdersRow : OpenClaim := { program := "ytbpcpgmbfnmacaa", sum := "78609cc610a038b26d88a69356e7b69ce8edaa29c932fb1f3ff35488a24d1d95", func := "dialtone/dialtonelaw25.PacketOrders", spec := "packetOrders", unfollowed := true, recurses := true, apart := false }
def PacketOrdersSaid : Prop := packetOrdersRow.holds Try.pinned (OpenSpec.ofChange packetOrdersSpec)

/-- ITS FALSE NEIGHBOUR: 'it returns false'. Refute it at one input. -/
def packetOrdersWrong : ChangeSpec := { name := "packetOrders", fn := fun _ => fun
  | [d1, d2] => { results := [.lit (.bool false)], args := [d1, d2] }
  | _ => none }
def PacketOrdersWrongFalsely : Prop := packetOrdersRow.holds Try.pinned (OpenSpec.ofChange packetOrdersWrong)

/-- 'dialtonelaw25.PacketKnown': WHATEVER THE INPUT: true; the input reads as it did. -/
def packetKnownSpec : ChangeSpec := { name := "packetKnown", fn := fun _ => fun
  | [] => { results := [.lit (.bool true)], args := [] }
  | _ => none }
def packetKnownRow : OpenClaim := { program := "ytbpcpgmbfnmacaa", sum := "78609cc610a038b26d88a69356e7b69ce8edaa29c932fb1f3ff35488a24d1d95", func := "dialtone/dialtonelaw25.PacketKnown", spec := "packetKnown", unfollowed := true, recurses := true, apart := false }
def PacketKnownSaid : Prop := packetKnownRow.holds Try.pinned (OpenSpec.ofChange packetKnownSpec)

/-- ITS FALSE NEIGHBOUR: 'it returns false'. Refute it at one input. -/
def packetKnownWrong : ChangeSpec := { name := "packetKnown", fn := fun _ => fun
  | [] => { results := [.lit (.bool false)], args := [] }
  | _ => none }
def PacketKnownWrongFalsely : Prop := packetKnownRow.holds Try.pinned (OpenSpec.ofChange packetKnownWrong)

/- THE SECOND FORM. 'bulk': how many values and letters a reading holds, each counted each time it is reached (what is shared counts as often as it is met; a slice's spare places count too). A statement '..UptoSaid' is the law's where the arguments, and the package variables that the reading takes, are together of bulk at most 1048576: NARROWER than '..Said'. Prove '..Said' where nothing that the law and all that it calls make is longer than what came in: it says more and counts as full. Else prove '..UptoSaid'. A law counts once. -/
mutual
def uptoBulk {H : Type} : DataW H → Nat
  | .lit (.string bytes) => bytes.length + 1
  | .lit _ => 1
  | .nil => 1
  | .ptr d => uptoBulk d + 1
  | .slice elems spare => uptoBulkAll elems + uptoBulkAll spare + 1
  | .agg parts => uptoBulkAll parts + 1
  | .iface _ d => uptoBulk d + 1
  | .map entries => uptoBulkEntries entries + 1
  | .held _ => 1
def uptoBulkAll {H : Type} : List (DataW H) → Nat
  | [] => 0
  | d :: r => uptoBulk d + uptoBulkAll r
def uptoBulkEntries {H : Type} : List (Lit × DataW H) → Nat
  | [] => 0
  | x :: r => uptoBulkEntry x + uptoBulkEntries r
def uptoBulkEntry {H : Type} : Lit × DataW H → Nat
  | (.string bytes, d) => bytes.length + uptoBulk d + 1
  | (_, d) => uptoBulk d + 1
 end
def uptoSmall : (H : Type) → List (DataW H) → Bool := fun _ ds => decide (uptoBulkAll ds ≤ 1048576)
def OpenSpec.upto (s : _root_.Go.ChangeSpec) : _root_.Go.OpenSpec := { _root_.Go.OpenSpec.ofChange s with cond := some uptoSmall }

/-- 'dialtonelaw25.PacketEncodes', WHERE WHAT IT READS IS OF BULK AT MOST 1048576: true; the input reads as it did. -/
def packetEncodesUptoRow : OpenClaim := { program := "ytbpcpgmbfnmacaa", sum := "78609cc610a038b26d88a69356e7b69ce8edaa29c932fb1f3ff35488a24d1d95", func := "dialtone/dialtonelaw25.PacketEncodes", spec := "packetEncodes", unfollowed := true, recurses := true, apart := false, narrowed := true }
def PacketEncodesUptoSaid : Prop := packetEncodesUptoRow.holds Try.pinned (OpenSpec.upto packetEncodesSpec)

/-- 'dialtonelaw25.PacketDecodes', WHERE WHAT IT READS IS OF BULK AT MOST 1048576: true; the input reads as it did. -/
def packetDecodesUptoRow : OpenClaim := { program := "ytbpcpgmbfnmacaa", sum := "78609cc610a038b26d88a69356e7b69ce8edaa29c932fb1f3ff35488a24d1d95", func := "dialtone/dialtonelaw25.PacketDecodes", spec := "packetDecodes", unfollowed := true, recurses := true, apart := false, narrowed := true }
def PacketDecodesUptoSaid : Prop := packetDecodesUptoRow.holds Try.pinned (OpenSpec.upto packetDecodesSpec)

/-- 'dialtonelaw25.PacketBack', WHERE WHAT IT READS IS OF BULK AT MOST 1048576: true; the input reads as it did. -/
def packetBackUptoRow : OpenClaim := { program := "ytbpcpgmbfnmacaa", sum := "78609cc610a038b26d88a69356e7b69ce8edaa29c932fb1f3ff35488a24d1d95", func := "dialtone/dialtonelaw25.PacketBack", spec := "packetBack", unfollowed := true, recurses := true, apart := false, narrowed := true }
def PacketBackUptoSaid : Prop := packetBackUptoRow.holds Try.pinned (OpenSpec.upto packetBackSpec)

/-- 'dialtonelaw25.PacketCuts', WHERE WHAT IT READS IS OF BULK AT MOST 1048576: true; the input reads as it did. -/
def packetCutsUptoRow : OpenClaim := { program := "ytbpcpgmbfnmacaa", sum := "78609cc610a038b26d88a69356e7b69ce8edaa29c932fb1f3ff35488a24d1d95", func := "dialtone/dialtonelaw25.PacketCuts", spec := "packetCuts", unfollowed := true, recurses := true, apart := false, narrowed := true }
def PacketCutsUptoSaid : Prop := packetCutsUptoRow.holds Try.pinned (OpenSpec.upto packetCutsSpec)

/-- 'dialtonelaw25.PacketTracks', WHERE WHAT IT READS IS OF BULK AT MOST 1048576: true; the input reads as it did. -/
def packetTracksUptoRow : OpenClaim := { program := "ytbpcpgmbfnmacaa", sum := "78609cc610a038b26d88a69356e7b69ce8edaa29c932fb1f3ff35488a24d1d95", func := "dialtone/dialtonelaw25.PacketTracks", spec := "packetTracks", unfollowed := true, recurses := true, apart := false, narrowed := true }
def PacketTracksUptoSaid : Prop := packetTracksUptoRow.holds Try.pinned (OpenSpec.upto packetTracksSpec)

/-- 'dialtonelaw25.PacketCounts', WHERE WHAT IT READS IS OF BULK AT MOST 1048576: true; the input reads as it did. -/
def packetCountsUptoRow : OpenClaim := { program := "ytbpcpgmbfnmacaa", sum := "78609cc610a038b26d88a69356e7b69ce8edaa29c932fb1f3ff35488a24d1d95", func := "dialtone/dialtonelaw25.PacketCounts", spec := "packetCounts", unfollowed := true, recurses := true, apart := false, narrowed := true }
def PacketCountsUptoSaid : Prop := packetCountsUptoRow.holds Try.pinned (OpenSpec.upto packetCountsSpec)

/-- 'dialtonelaw25.PacketExtends', WHERE WHAT IT READS IS OF BULK AT MOST 1048576: true; the input reads as it did. -/
def packetExtendsUptoRow : OpenClaim := { program := "ytbpcpgmbfnmacaa", sum := "78609cc610a038b26d88a69356e7b69ce8edaa29c932fb1f3ff35488a24d1d95", func := "dialtone/dialtonelaw25.PacketExtends", spec := "packetExtends", unfollowed := true, recurses := true, apart := false, narrowed := true }
def PacketExtendsUptoSaid : Prop := packetExtendsUptoRow.holds Try.pinned (OpenSpec.upto packetExtendsSpec)

/-- 'dialtonelaw25.PacketOrders', WHERE WHAT IT READS IS OF BULK AT MOST 1048576: true; the input reads as it did. -/
def packetOrdersUptoRow : OpenClaim := { program := "ytbpcpgmbfnmacaa", sum := "78609cc610a038b26d88a69356e7b69ce8edaa29c932fb1f3ff35488a24d1d95", func := "dialtone/dialtonelaw25.PacketOrders", spec := "packetOrders", unfollowed := true, recurses := true, apart := false, narrowed := true }
def PacketOrdersUptoSaid : Prop := packetOrdersUptoRow.holds Try.pinned (OpenSpec.upto packetOrdersSpec)

/-- 'dialtonelaw25.PacketKnown', WHERE WHAT IT READS IS OF BULK AT MOST 1048576: true; the input reads as it did. -/
def packetKnownUptoRow : OpenClaim := { program := "ytbpcpgmbfnmacaa", sum := "78609cc610a038b26d88a69356e7b69ce8edaa29c932fb1f3ff35488a24d1d95", func := "dialtone/dialtonelaw25.PacketKnown", spec := "packetKnown", unfollowed := true, recurses := true, apart := false, narrowed := true }
def PacketKnownUptoSaid : Prop := packetKnownUptoRow.holds Try.pinned (OpenSpec.upto packetKnownSpec)

end Rows
end Go.Proofs.Ytbpcpgmbfnmacaa
