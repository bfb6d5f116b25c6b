/- Layer 25: Same of equal packets. -/
import Derived.Test.YtbpcpgmbfnmacaaPkDecS
import Derived.Deep.LoopGhost
namespace Go.Proofs.Ytbpcpgmbfnmacaa
open Go.RowKit
set_option linter.unusedVariables false
set_option linter.unusedSimpArgs false
attribute [local go_sem ↓] run_min_plain run_max_plain
attribute [local go_sem] setCell_drewN alloc_drewN
set_option maxRecDepth 100000 in
set_option maxHeartbeats 6400000 in
theorem rSame_any (mk : Bool) (ty sq ti so : Int) (mx : List Int) (ex : Bool) (ek : Int) (et pl : List Int) (pad : Int) (M1 M2 E1 E2 P1 P2 : Option Addr) (c1 c2 d1 d2 f1 f2 : Nat) (w : World)
    (hM1 : IntsAt w w.heap.size .u32 M1 mx) (hM2 : IntsAt w w.heap.size .u32 M2 mx) (hE1 : IntsAt w w.heap.size .u8 E1 et) (hE2 : IntsAt w w.heap.size .u8 E2 et) (hP1 : IntsAt w w.heap.size .u8 P1 pl) (hP2 : IntsAt w w.heap.size .u8 P2 pl) (hm : mx.length ≤ 100000) :
    Calls Try.prog 17 #[.agg #[.bool mk, .int .u8 ty, .int .u16 sq, .int .u32 ti, .int .u32 so, .slice M1 mx.length c1, .bool ex, .int .u16 ek, .slice E1 et.length d1, .slice P1 pl.length f1, .int .i64 pad], .agg #[.bool mk, .int .u8 ty, .int .u16 sq, .int .u32 ti, .int .u32 so, .slice M2 mx.length c2, .bool ex, .int .u16 ek, .slice E2 et.length d2, .slice P2 pl.length f2, .int .i64 pad]] w fun e w' => e = .returned (.bool true) ∧ Below w.heap.size w w' := by
  have hb : ∀ {k : IntKind} {A : Option Addr} {l : List Int}, IntsAt w w.heap.size k A l → IntsAt ((w.alloc (.cells #[.bool mk, .int .u8 ty, .int .u16 sq, .int .u32 ti, .int .u32 so, .slice M1 mx.length c1, .bool ex, .int .u16 ek, .slice E1 et.length d1, .slice P1 pl.length f1, .int .i64 pad] 27)).alloc (.cells #[.bool mk, .int .u8 ty, .int .u16 sq, .int .u32 ti, .int .u32 so, .slice M2 mx.length c2, .bool ex, .int .u16 ek, .slice E2 et.length d2, .slice P2 pl.length f2, .int .i64 pad] 27)) ((w.alloc (.cells #[.bool mk, .int .u8 ty, .int .u16 sq, .int .u32 ti, .int .u32 so, .slice M1 mx.length c1, .bool ex, .int .u16 ek, .slice E1 et.length d1, .slice P1 pl.length f1, .int .i64 pad] 27)).alloc (.cells #[.bool mk, .int .u8 ty, .int .u16 sq, .int .u32 ti, .int .u32 so, .slice M2 mx.length c2, .bool ex, .int .u16 ek, .slice E2 et.length d2, .slice P2 pl.length f2, .int .i64 pad] 27)).heap.size k A l := fun h => (h.push _).push _
  have v1 := run_convert_ints (hb hE1) 25 9 5 Try.underlying25 Try.underlying5 Try.underlying9 et.length d1 rfl
  have v2 := run_convert_ints (hb hE2) 25 9 5 Try.underlying25 Try.underlying5 Try.underlying9 et.length d2 rfl
  have v3 := run_convert_ints (hb hP1) 25 9 5 Try.underlying25 Try.underlying5 Try.underlying9 pl.length f1 rfl
  have v4 := run_convert_ints (hb hP2) 25 9 5 Try.underlying25 Try.underlying5 Try.underlying9 pl.length f2 rfl
  have HM1 := Lib.hid hM1
  have HM2 := Lib.hid hM2
  have U := Lib.hid ((Bel.push (Bel.push (Bel.refl w) (.cells #[.bool mk, .int .u8 ty, .int .u16 sq, .int .u32 ti, .int .u32 so, .slice M1 mx.length c1, .bool ex, .int .u16 ek, .slice E1 et.length d1, .slice P1 pl.length f1, .int .i64 pad] 27)) (.cells #[.bool mk, .int .u8 ty, .int .u16 sq, .int .u32 ti, .int .u32 so, .slice M2 mx.length c2, .bool ex, .int .u16 ek, .slice E2 et.length d2, .slice P2 pl.length f2, .int .i64 pad] 27)))
  have B1 := Lib.hid ((Blk.new w 27 #[.bool mk, .int .u8 ty, .int .u16 sq, .int .u32 ti, .int .u32 so, .slice M1 mx.length c1, .bool ex, .int .u16 ek, .slice E1 et.length d1, .slice P1 pl.length f1, .int .i64 pad]).push (.cells #[.bool mk, .int .u8 ty, .int .u16 sq, .int .u32 ti, .int .u32 so, .slice M2 mx.length c2, .bool ex, .int .u16 ek, .slice E2 et.length d2, .slice P2 pl.length f2, .int .i64 pad] 27))
  have B2 := Lib.hid (Blk.new1 w (.cells #[.bool mk, .int .u8 ty, .int .u16 sq, .int .u32 ti, .int .u32 so, .slice M1 mx.length c1, .bool ex, .int .u16 ek, .slice E1 et.length d1, .slice P1 pl.length f1, .int .i64 pad] 27) 27 #[.bool mk, .int .u8 ty, .int .u16 sq, .int .u32 ti, .int .u32 so, .slice M2 mx.length c2, .bool ex, .int .u16 ek, .slice E2 et.length d2, .slice P2 pl.length f2, .int .i64 pad])
  clear hb hM1 hM2 hE1 hE2 hP1 hP2
  go_enter Try.func17, Try.ntmps17
  go_wp2_with fail
  clear v1 v2 v3 v4
  go_loopg [5] mx.length (fun gk i wr => ∃ k : Nat, gk + k = mx.length ∧ i = .int .i64 k ∧ Hid (Blk wr w.heap.size 27 #[.bool mk, .int .u8 ty, .int .u16 sq, .int .u32 ti, .int .u32 so, .slice M1 mx.length c1, .bool ex, .int .u16 ek, .slice E1 et.length d1, .slice P1 pl.length f1, .int .i64 pad]) ∧ Hid (Blk wr (w.heap.size + 1) 27 #[.bool mk, .int .u8 ty, .int .u16 sq, .int .u32 ti, .int .u32 so, .slice M2 mx.length c2, .bool ex, .int .u16 ek, .slice E2 et.length d2, .slice P2 pl.length f2, .int .i64 pad]) ∧ Hid (Bel w wr))
  case atStart => exact ⟨0, rfl, rfl, B1, B2, U⟩
  case round =>
    clear B1 B2 U
    obtain ⟨k, hgk, rfl, B1, B2, U⟩ := hrel
    have hi0 : (0 : Int) ≤ (k : Int) := by omega
    have x5 := B1.out.at 5 _ rfl
    have y5 := B2.out.at 5 _ rfl
    by_cases hlt : k < mx.length
    rotate_left
    · obtain rfl : k = mx.length := by omega
      have hi1 : (mx.length : Int) ≤ (mx.length : Int) := Int.le_refl _
      go_wp2_with fail
      go_ret
      exact ⟨rfl, U.out⟩
    have hi1 : (k : Int) < (mx.length : Int) := by omega
    obtain ⟨b, off, rfl, hbB, hcell⟩ := (HM1.out.below U.out) (by omega)
    obtain ⟨b', off', rfl, hbB', hcell'⟩ := (HM2.out.below U.out) (by omega)
    have e0 := hcell k hlt
    have e1 := hcell' k hlt
    generalize mx.getD k 0 = z at *
    clear hcell hcell'
    go_wp2_with fail
    go_quiet (fail)
    go_wp2_with fail
    go_roundg (gk - 1)
    case measure => omega
    case rel => exact ⟨k + 1, by omega, by go_num, Lib.hid (B1.out.drewN _), Lib.hid (B2.out.drewN _), Lib.hid (U.out.drewN _)⟩
end Go.Proofs.Ytbpcpgmbfnmacaa
