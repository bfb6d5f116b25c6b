/- Layer 29, EventsOnce: the law returns true for every input. -/
import Derived.Test.YtangooegialmcaaEvOnceM
namespace Go.Proofs.Ytangooegialmcaa.eventsOnce
open Go.RowKit
set_option linter.unusedVariables false
set_option linter.unusedSimpArgs false
theorem walk (w : World) (t : Int) (wt : (Lit.int .u32 t).wf = true) (A : Option Addr) (l : List TStroke) (c : Nat) (hl : l.length ≤ c) (hc : c ≤ maxLen) (hA : RowsAt w w.heap.size 3 TStroke.row A l) (hok : ∀ a ∈ l, a.ok)
    (B : Option Addr) (us : List Int) (d : Nat) (hl2 : us.length ≤ d) (hd : d ≤ maxLen) (hB : IntsAt w w.heap.size .u16 B us) (w2 : ∀ z ∈ us, (Lit.int .u16 z).wf = true) :
    Calls Try.prog 8 #[.int .u32 t, .slice A l.length c, .slice B us.length d] w fun e w' => e = .returned (.bool true) ∧ Below w.heap.size w w' := by
  have q : 0 ≤ t ∧ t ≤ 4294967295 := by simpa [Lit.wf, IntKind.min, IntKind.max, IntKind.signed, IntKind.bits] using wt
  exact main w t q.1 q.2 A l c hl hc hA hok B us d hB (within_u16 w2) (by omega)
end Go.Proofs.Ytangooegialmcaa.eventsOnce
