/-
  No cell of these rows narrows 'for every input' (looked for: loops, veiled, ifaces, maps, wideKeys, modest, calm, conditions, laid).
  DERIVED. THE GIVEN ROWS OF THIS SEAT. 4 by the template 'for every input the law returns true; each argument reads behind the call as it read before'; 0 by the template 'total and deterministic' (their statements: YtahbecinkciahaaGreatTotals.lean).
  GIVEN WITH THE SEED: the statements are not yours to turn. If you find one false, say at which input.
  Laid BY PROGRAM, IN A SANDBOX (cutbox-rows.mjs): the forced cells as the released guide's own fill.sh prints them over the translation ab81db87dd4b0221… (all of the seat's roots in one cut). By AI agents, Wed Nov 11 2026. No macro, syntax, notation, axiom, sorry.
-/
import Derived.Test.YtahbecinkciahaaGreatChecked
import GoSem.Claim
import GoSem.ClaimJoined
import GoSem.ClaimMapViews
import Derived.JoinedTies
import Derived.KernelRfl
namespace Go.Proofs.YtahbecinkciahaaGreat
/- THE CELL 'sum', in the pinned program and in every row, IS THE sha256 OF THE DUMP (.gsa) THAT YtahbecinkciahaaGreatProg.lean LOADS. Nothing in Lean hashes anything: it is a label: what it is worth is what the hold of that sum in a sandbox is worth. -/
noncomputable def Tryz.pinned : Pinned := { name := "ytahbecinkciahaagreat", sum := "ab81db87dd4b0221ca664140163780e42ad2186f812d9ed0aa0eff0c20661107", checked := Tryz.checked }
namespace Rows
def none {H : Type} : Left H := { results := [], args := [] }

/-- 'dialtonelaw32.StreamTranscodes': WHATEVER THE INPUT: true; the input reads as it did. -/
def streamTranscodesSpec : ChangeSpec := { name := "streamTranscodes", fn := fun _ => fun
  | [d1, d2, d3, d4] => { results := [.lit (.bool true)], args := [d1, d2, d3, d4] }
  | _ => none }
def streamTranscodesRow : OpenClaim := { program := "ytahbecinkciahaagreat", sum := "ab81db87dd4b0221ca664140163780e42ad2186f812d9ed0aa0eff0c20661107", func := "dialtone/dialtonelaw32.StreamTranscodes", spec := "streamTranscodes", inPlace := ["slices.overlaps[dialtone/api.Waiting]"], unfollowed := true, recurses := true, apart := false }
def StreamTranscodesSaid : Prop := streamTranscodesRow.holds Tryz.pinned (OpenSpec.ofChange streamTranscodesSpec)

/-- ITS FALSE NEIGHBOUR: 'it returns false'. Refute it at one input. -/
def streamTranscodesWrong : ChangeSpec := { name := "streamTranscodes", fn := fun _ => fun
  | [d1, d2, d3, d4] => { results := [.lit (.bool false)], args := [d1, d2, d3, d4] }
  | _ => none }
def StreamTranscodesWrongFalsely : Prop := streamTranscodesRow.holds Tryz.pinned (OpenSpec.ofChange streamTranscodesWrong)

/-- 'dialtonelaw32.StreamReceives': WHATEVER THE INPUT: true; the input reads as it did. -/
def streamReceivesSpec : ChangeSpec := { name := "streamReceives", fn := fun _ => fun
  | [d1, d2, d3, d4, d5, d6] => { results := [.lit (.bool true)], args := [d1, d2, d3, d4, d5, d6] }
  | _ => none }
def streamReceivesRow : OpenClaim := { program := "ytahbecinkciahaagreat", sum := "ab81db87dd4b0221ca664140163780e42ad2186f812d9ed0aa0eff0c20661107", func := "dialtone/dialtonelaw32.StreamReceives", spec := "streamReceives", inPlace := ["slices.overlaps[dialtone/api.Waiting]"], unfollowed := true, recurses := true, apart := false }
def StreamReceivesSaid : Prop := streamReceivesRow.holds Tryz.pinned (OpenSpec.ofChange streamReceivesSpec)

/-- ITS FALSE NEIGHBOUR: 'it returns false'. Refute it at one input. -/
def streamReceivesWrong : ChangeSpec := { name := "streamReceives", fn := fun _ => fun
  | [d1, d2, d3, d4, d5, d6] => { results := [.lit (.bool false)], args := [d1, d2, d3, d4, d5, d6] }
  | _ => none }
def StreamReceivesWrongFalsely : Prop := streamReceivesRow.holds Tryz.pinned (OpenSpec.ofChange streamReceivesWrong)

/-- 'dialtonelaw32.StreamSends': WHATEVER THE INPUT: true; the input reads as it did. -/
def streamSendsSpec : ChangeSpec := { name := "streamSends", fn := fun _ => fun
  | [d1, d2, d3, d4, d5] => { results := [.lit (.bool true)], args := [d1, d2, d3, d4, d5] }
  | _ => none }
def streamSendsRow : OpenClaim := { program := "ytahbecinkciahaagreat", sum := "ab81db87dd4b0221ca664140163780e42ad2186f812d9ed0aa0eff0c20661107", func := "dialtone/dialtonelaw32.StreamSends", spec := "streamSends", inPlace := ["slices.overlaps[dialtone/api.Waiting]"], unfollowed := true, recurses := true, apart := false }
def StreamSendsSaid : Prop := streamSendsRow.holds Tryz.pinned (OpenSpec.ofChange streamSendsSpec)

/-- ITS FALSE NEIGHBOUR: 'it returns false'. Refute it at one input. -/
def streamSendsWrong : ChangeSpec := { name := "streamSends", fn := fun _ => fun
  | [d1, d2, d3, d4, d5] => { results := [.lit (.bool false)], args := [d1, d2, d3, d4, d5] }
  | _ => none }
def StreamSendsWrongFalsely : Prop := streamSendsRow.holds Tryz.pinned (OpenSpec.ofChange streamSendsWrong)

/-- 'dialtonelaw32.StreamEnds': WHATEVER THE INPUT: true; the input reads as it did. -/
def streamEndsSpec : ChangeSpec := { name := "streamEnds", fn := fun _ => fun
  | [d1, d2, d3, d4] => { results := [.lit (.bool true)], args := [d1, d2, d3, d4] }
  | _ => none }
def streamEndsRow : OpenClaim := { program := "ytahbecinkciahaagreat", sum := "ab81db87dd4b0221ca664140163780e42ad2186f812d9ed0aa0eff0c20661107", func := "dialtone/dialtonelaw32.StreamEnds", spec := "streamEnds", inPlace := ["slices.overlaps[dialtone/api.Waiting]"], unfollowed := true, recurses := true, apart := false }
def StreamEndsSaid : Prop := streamEndsRow.holds Tryz.pinned (OpenSpec.ofChange streamEndsSpec)

/-- ITS FALSE NEIGHBOUR: 'it returns false'. Refute it at one input. -/
def streamEndsWrong : ChangeSpec := { name := "streamEnds", fn := fun _ => fun
  | [d1, d2, d3, d4] => { results := [.lit (.bool false)], args := [d1, d2, d3, d4] }
  | _ => none }
def StreamEndsWrongFalsely : Prop := streamEndsRow.holds Tryz.pinned (OpenSpec.ofChange streamEndsWrong)

/- THE SECOND FORM. 'bulk': how many values and letters a reading holds, each counted each time it is reached (what is shared counts as often as it is met; a slice's spare places count too). A statement '..UptoSaid' is the law's where the arguments, and the package variables that the reading takes, are together of bulk at most 1048576: NARROWER than '..Said'. Prove '..Said' where nothing that the law and all that it calls make is longer than what came in: it says more and counts as full. Else prove '..UptoSaid'. A law counts once. -/
mutual
def uptoBulk {H : Type} : DataW H → Nat
  | .lit (.string bytes) => bytes.length + 1
  | .lit _ => 1
  | .nil => 1
  | .ptr d => uptoBulk d + 1
  | .slice elems spare => uptoBulkAll elems + uptoBulkAll spare + 1
  | .agg parts => uptoBulkAll parts + 1
  | .iface _ d => uptoBulk d + 1
  | .map entries => uptoBulkEntries entries + 1
  | .held _ => 1
def uptoBulkAll {H : Type} : List (DataW H) → Nat
  | [] => 0
  | d :: r => uptoBulk d + uptoBulkAll r
def uptoBulkEntries {H : Type} : List (Lit × DataW H) → Nat
  | [] => 0
  | x :: r => uptoBulkEntry x + uptoBulkEntries r
def uptoBulkEntry {H : Type} : Lit × DataW H → Nat
  | (.string bytes, d) => bytes.length + uptoBulk d + 1
  | (_, d) => uptoBulk d + 1
 end
def uptoSmall : (H : Type) → List (DataW H) → Bool := fun _ ds => decide (uptoBulkAll ds ≤ 1048576)
def OpenSpec.upto (s : _root_.Go.ChangeSpec) : _root_.Go.OpenSpec := { _root_.Go.OpenSpec.ofChange s with cond := some uptoSmall }

/-- 'dialtonelaw32.StreamTranscodes', WHERE WHAT IT READS IS OF BULK AT MOST 1048576: true; the input reads as it did. -/
def streamTranscodesUptoRow : OpenClaim := { program := "ytahbecinkciahaagreat", sum := "ab81db87dd4b0221ca664140163780e42ad2186f812d9ed0aa0eff0c20661107", func := "dialtone/dialtonelaw32.StreamTranscodes", spec := "streamTranscodes", inPlace := ["slices.overlaps[dialtone/api.Waiting]"], unfollowed := true, recurses := true, apart := false, narrowed := true }
def StreamTranscodesUptoSaid : Prop := streamTranscodesUptoRow.holds Tryz.pinned (OpenSpec.upto streamTranscodesSpec)

/-- 'dialtonelaw32.StreamReceives', WHERE WHAT IT READS IS OF BULK AT MOST 1048576: true; the input reads as it did. -/
def streamReceivesUptoRow : OpenClaim := { program := "ytahbecinkciahaagreat", sum := "ab81db87dd4b0221ca664140163780e42ad2186f812d9ed0aa0eff0c20661107", func := "dialtone/dialtonelaw32.StreamReceives", spec := "streamReceives", inPlace := ["slices.overlaps[dialtone/api.Waiting]"], unfollowed := true, recurses := true, apart := false, narrowed := true }
def StreamReceivesUptoSaid : Prop := streamReceivesUptoRow.holds Tryz.pinned (OpenSpec.upto streamReceivesSpec)

/-- 'dialtonelaw32.StreamSends', WHERE WHAT IT READS IS OF BULK AT MOST 1048576: true; the input reads as it did. -/
def streamSendsUptoRow : OpenClaim := { program := "ytahbecinkciahaagreat", sum := "ab81db87dd4b0221ca664140163780e42ad2186f812d9ed0aa0eff0c20661107", func := "dialtone/dialtonelaw32.StreamSends", spec := "streamSends", inPlace := ["slices.overlaps[dialtone/api.Waiting]"], unfollowed := true, recurses := true, apart := false, narrowed := true }
def StreamSendsUptoSaid : Prop := streamSendsUptoRow.holds Tryz.pinned (OpenSpec.upto streamSendsSpec)

/-- 'dialtonelaw32.StreamEnds', WHERE WHAT IT READS IS OF BULK AT MOST 1048576: true; the input reads as it did. -/
def streamEndsUptoRow : OpenClaim := { program := "ytahbecinkciahaagreat", sum := "ab81db87dd4b0221ca664140163780e42ad2186f812d9ed0aa0eff0c20661107", func := "dialtone/dialtonelaw32.StreamEnds", spec := "streamEnds", inPlace := ["slices.overlaps[dialtone/api.Waiting]"], unfollowed := true, recurses := true, apart := false, narrowed := true }
def StreamEndsUptoSaid : Prop := streamEndsUptoRow.holds Tryz.pinned (OpenSpec.upto streamEndsSpec)

end Rows
end Go.Proofs.YtahbecinkciahaaGreat
