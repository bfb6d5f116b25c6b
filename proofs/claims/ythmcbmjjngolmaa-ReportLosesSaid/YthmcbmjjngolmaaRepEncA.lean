/- Layer 26: Encode for every report. -/
import Derived.Test.YthmcbmjjngolmaaRepREnc
namespace Go.Proofs.Ythmcbmjjngolmaa
open Go.RowKit
set_option linter.unusedVariables false
set_option linter.unusedSimpArgs false
theorem Encode_any (s : Bool) (so cl ti pa oc : Int) (Bl : Option Addr) (l : List Rep.Bk) (cb : Nat) (w : World) (hR : Rep.Rpt.ok ⟨s, so, cl, ti, pa, oc, l⟩) (hB : RowsAt w w.heap.size 7 Rep.Bk.cells Bl l) : Calls Try.prog 17 #[.agg #[.bool s, .int .u32 so, .int .u64 cl, .int .u32 ti, .int .u32 pa, .int .u32 oc, .slice Bl l.length cb]] w (EncR (Rep.enc ⟨s, so, cl, ti, pa, oc, l⟩) w) := by
  by_cases hl : 31 < l.length
  · have h : Rep.enc ⟨s, so, cl, ti, pa, oc, l⟩ = ([], 4) := by unfold Rep.enc; rw [if_pos hl]
    rw [h]
    exact Enc_limit so cl ti pa oc Bl l cb w s hl
  · cases s
    · exact Enc_false so cl ti pa oc Bl l cb w (by omega) hR hB
    · exact Enc_true so cl ti pa oc Bl l cb w (by omega) hR hB
theorem rEncode_any (s : Bool) (so cl ti pa oc : Int) (Bl : Option Addr) (l : List Rep.Bk) (cb : Nat) (w : World) (hR : Rep.Rpt.ok ⟨s, so, cl, ti, pa, oc, l⟩) (hB : RowsAt w w.heap.size 7 Rep.Bk.cells Bl l) : Calls Try.prog 20 #[.agg #[.bool s, .int .u32 so, .int .u64 cl, .int .u32 ti, .int .u32 pa, .int .u32 oc, .slice Bl l.length cb]] w (EncR (Rep.enc ⟨s, so, cl, ti, pa, oc, l⟩) w) := by
  by_cases hl : 31 < l.length
  · have h : Rep.enc ⟨s, so, cl, ti, pa, oc, l⟩ = ([], 4) := by unfold Rep.enc; rw [if_pos hl]
    rw [h]
    exact rEnc_limit so cl ti pa oc Bl l cb w s hl
  · cases s
    · exact rEnc_false so cl ti pa oc Bl l cb w (by omega) hR hB
    · exact rEnc_true so cl ti pa oc Bl l cb w (by omega) hR hB
end Go.Proofs.Ythmcbmjjngolmaa
