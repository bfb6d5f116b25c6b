/- Layer 25: Decode of the program, for any bytes. -/
import Derived.Test.YtbpcpgmbfnmacaaPkDecFF
import Derived.Test.YtbpcpgmbfnmacaaPkDecFT
import Derived.Test.YtbpcpgmbfnmacaaPkDecTF
import Derived.Test.YtbpcpgmbfnmacaaPkDecTT
namespace Go.Proofs.Ytbpcpgmbfnmacaa
open Go.RowKit
set_option linter.unusedVariables false
set_option linter.unusedSimpArgs false
attribute [local go_sem] setCell_drewN alloc_drewN
theorem Decode_any (A : Option Addr) (bs : List Int) (c : Nat) (w : World) (hA : IntsAt w w.heap.size .u8 A bs) (hz : Within 0 255 bs) (hm : bs.length ≤ 100000) (hc : bs.length ≤ c) : Calls Try.prog 15 #[.slice A bs.length c] w (PDecR (Pk.dec bs) w) := by
  unfold Pk.dec
  by_cases h : (Pk.chk bs).2 = 0
  case neg => rw [if_pos h]; exact PDec_head A bs c w hA hz hm hc h
  rw [if_neg (fun h2 => h2 h)]
  have hr : bs.getD 0 0 / 32 % 2 = 0 ∨ bs.getD 0 0 / 32 % 2 = 1 := by omega
  rcases hr with hp | hp
  · rw [if_neg (by omega)]
    cases he : Pk.ext bs with
    | false => exact PDec_FF A bs c w hA hz hm hc h he hp
    | true => exact PDec_TF A bs c w hA hz hm hc h he hp
  · rw [if_pos hp]
    cases he : Pk.ext bs with
    | false => exact PDec_FT A bs c w hA hz hm hc h he hp
    | true => exact PDec_TT A bs c w hA hz hm hc h he hp
end Go.Proofs.Ytbpcpgmbfnmacaa
