/- Layer 25, PacketCuts: for every packet and cut the law returns true. -/
import Derived.Test.YtbpcpgmbfnmacaaPkLives
import Derived.Test.YtbpcpgmbfnmacaaPkTypes
import Derived.Test.YtbpcpgmbfnmacaaPkBackP
namespace Go.Proofs.Ytbpcpgmbfnmacaa.packetCuts
open Go.RowKit
set_option linter.unusedVariables false
set_option linter.unusedSimpArgs false
attribute [local go_sem ↓] run_min_plain run_max_plain
attribute [local go_sem] setCell_drewN alloc_drewN
set_option maxRecDepth 100000 in
set_option maxHeartbeats 6400000 in
theorem walk (w : World) (mk : Bool) (ty sq ti so : Int) (Am : Option Addr) (mx : List Int) (cm : Nat) (ex : Bool) (ek : Int) (Ae : Option Addr) (et : List Int) (ce : Nat) (Ap : Option Addr) (pl : List Int) (cp : Nat) (pad : Int) (hok : TPk.ok w ⟨mk, ty, sq, ti, so, Am, mx, cm, ex, ek, Ae, et, ce, Ap, pl, cp, pad⟩) (cut : Int) (w1 : (Lit.int .u16 cut).wf = true) :
    Calls Try.prog 6 #[.agg #[.bool mk, .int .u8 ty, .int .u16 sq, .int .u32 ti, .int .u32 so, .slice Am mx.length cm, .bool ex, .int .u16 ek, .slice Ae et.length ce, .slice Ap pl.length cp, .int .i64 pad], .int .u16 cut] w fun e w' => e = .returned (.bool true) ∧ Below w.heap.size w w' := by
  obtain ⟨⟨ty0, ty1⟩, ⟨sq0, sq1⟩, ⟨ti0, ti1⟩, ⟨so0, so1⟩, ⟨ek0, ek1⟩, ⟨pd0, pd1⟩, ⟨hM, hMz, hMl⟩, ⟨hE, hEz, hEl⟩, ⟨hP, hPz, hPl⟩⟩ := TPk.facts mk ty sq ti so Am mx cm ex ek Ae et ce Ap pl cp pad hok
  unfold maxLen at hMl hEl hPl
  clear hok
  obtain ⟨cu0, cu1⟩ := wf_u16 w1
  by_cases hlong : 15 < mx.length ∨ 1020 < et.length
  · clear hM hE hP hMz hEz hPz
    have hcs : 15 < (mx.length : Int) ∨ (mx.length : Int) ≤ 15 ∧ 1020 < (et.length : Int) := by omega
    clear hlong
    rcases hcs with h1 | ⟨h1, h2⟩
    all_goals
      go_enter Try.func6, Try.ntmps6
      go_wp2_with fail
      refine (lives25 _).mono ?_
      rintro e w2 ⟨rfl, hb⟩
      go_wp2_with fail
      go_ret
      exact ⟨rfl, (((Below.refl _ _).alloc (Nat.le_refl _) _).trans (hb.mono (by simp)))⟩
  have l1 : (mx.length : Int) ≤ 15 := by omega
  have l2 : (et.length : Int) ≤ 1020 := by omega
  have k1 := fun W h1 h2 => Encode_cap mk ty sq ti so Am mx cm ek Ae et ce none [] 0 0 W ex ty0 sq0 sq1 ti0 ti1 so0 so1 ek0 ek1 (by omega) (by omega) (by simp) hMz h1 h2 IntsAt.nil
  simp only [List.length_nil] at k1
  have IM := Lib.hid hM
  have IE := Lib.hid hE
  by_cases he : Pk.err ⟨mk, ty, sq, ti, so, mx, ex, ek, et, [], 0⟩ = 0
  rotate_left
  · have e1 : Pk.enc ⟨mk, ty, sq, ti, so, mx, ex, ek, et, [], 0⟩ = ([], Pk.err ⟨mk, ty, sq, ti, so, mx, ex, ek, et, [], 0⟩) := by unfold Pk.enc; rw [if_neg he]
    rw [e1] at k1
    generalize Pk.err ⟨mk, ty, sq, ti, so, mx, ex, ek, et, [], 0⟩ = er at *
    have hne : (er != 0) = true := by simpa using he
    have K1 := Lib.hid k1
    clear k1 e1 he hM hE hP hMz hEz hPz
    go_enter Try.func6, Try.ntmps6
    have U := Lib.hid (Bel.refl w)
    go_wp2_with fail
    replace U := Lib.hid (U.out.push (.cells #[.bool mk, .int .u8 ty, .int .u16 sq, .int .u32 ti, .int .u32 so, .slice Am mx.length cm, .bool ex, .int .u16 ek, .slice Ae et.length ce, .slice none 0 0, .int .i64 0] 27))
    replace IM := Lib.hid (IM.out.push (.cells #[.bool mk, .int .u8 ty, .int .u16 sq, .int .u32 ti, .int .u32 so, .slice Am mx.length cm, .bool ex, .int .u16 ek, .slice Ae et.length ce, .slice none 0 0, .int .i64 0] 27))
    replace IE := Lib.hid (IE.out.push (.cells #[.bool mk, .int .u8 ty, .int .u16 sq, .int .u32 ti, .int .u32 so, .slice Am mx.length cm, .bool ex, .int .u16 ek, .slice Ae et.length ce, .slice none 0 0, .int .i64 0] 27))
    refine (K1.out _ IM.out IE.out).mono ?_
    rintro e w1 ⟨A1, c1, rfl, _, _, hb1⟩
    replace U := Lib.hid (U.out.later hb1)
    replace IM := Lib.hid (IM.out.later hb1)
    replace IE := Lib.hid (IE.out.later hb1)
    clear hb1
    go_wp2_with fail
    refine (lives25 _).mono ?_
    rintro e w2 ⟨rfl, hb2⟩
    replace U := Lib.hid (U.out.later hb2)
    replace IM := Lib.hid (IM.out.later hb2)
    replace IE := Lib.hid (IE.out.later hb2)
    clear hb2
    go_wp2_with fail
    go_ret
    exact ⟨rfl, U.out⟩
  have g : Pk.Good ⟨mk, ty, sq, ti, so, mx, ex, ek, et, [], 0⟩ := Pk.Good.of he ty0 ⟨sq0, sq1⟩ ⟨ti0, ti1⟩ ⟨so0, so1⟩ ⟨ek0, ek1⟩ hMz hEz (Within.nil _ _)
  have e1 : Pk.enc ⟨mk, ty, sq, ti, so, mx, ex, ek, et, [], 0⟩ = (Pk.bytes ⟨mk, ty, sq, ti, so, mx, ex, ek, et, [], 0⟩, 0) := by unfold Pk.enc; rw [if_pos he]
  rw [e1] at k1
  obtain ⟨bz, b12, b6⟩ := Pk.bytes_facts g
  have hcut := fun n h => Pk.dec_cut g rfl rfl n h
  generalize Pk.bytes ⟨mk, ty, sq, ti, so, mx, ex, ek, et, [], 0⟩ = bs at *
  obtain ⟨n, hn⟩ : ∃ n : Nat, n = cut.toNat % bs.length := ⟨_, rfl⟩
  have hnl : n < bs.length := by rw [hn]; exact Nat.mod_lt _ (by omega)
  have hn1 : cut % (bs.length : Int) = (n : Int) := by rw [hn, Int.natCast_emod, Int.toNat_of_nonneg cu0]
  have hn2 : cut.tmod (bs.length : Int) = (n : Int) := by rw [Int.tmod_eq_emod_of_nonneg cu0]; exact hn1
  have htl : (bs.take n).length = n := by rw [List.length_take]; omega
  have hct := hcut n hnl
  have k2 := fun A C W h hC => Decode_any A (bs.take n) C W h (bz.take n) (by omega) hC
  rw [hct, htl] at k2
  have K1 := Lib.hid k1
  have K2 := Lib.hid k2
  have l3 : (12 : Int) ≤ (bs.length : Int) := by omega
  have l4 : (bs.length : Int) ≤ 6000 := by omega
  have l5 : (n : Int) < (bs.length : Int) := by omega
  have l6 : (0 : Int) ≤ (n : Int) := by omega
  have l7 : ¬bs.length = 0 := by omega
  have l8 : ¬bs = [] := by intro h5; rw [h5] at l7; exact l7 rfl
  clear k1 k2 hcut hct hn e1 he g hM hE hP hMz hEz hPz htl
  go_enter Try.func6, Try.ntmps6
  have U := Lib.hid (Bel.refl w)
  go_wp2_with fail
  replace U := Lib.hid (U.out.push (.cells #[.bool mk, .int .u8 ty, .int .u16 sq, .int .u32 ti, .int .u32 so, .slice Am mx.length cm, .bool ex, .int .u16 ek, .slice Ae et.length ce, .slice none 0 0, .int .i64 0] 27))
  replace IM := Lib.hid (IM.out.push (.cells #[.bool mk, .int .u8 ty, .int .u16 sq, .int .u32 ti, .int .u32 so, .slice Am mx.length cm, .bool ex, .int .u16 ek, .slice Ae et.length ce, .slice none 0 0, .int .i64 0] 27))
  replace IE := Lib.hid (IE.out.push (.cells #[.bool mk, .int .u8 ty, .int .u16 sq, .int .u32 ti, .int .u32 so, .slice Am mx.length cm, .bool ex, .int .u16 ek, .slice Ae et.length ce, .slice none 0 0, .int .i64 0] 27))
  refine (K1.out _ IM.out IE.out).mono ?_
  rintro e w1 ⟨A1, c1, rfl, hcap, ⟨ja_, _⟩, hb1⟩
  replace U := Lib.hid (U.out.later hb1)
  replace IM := Lib.hid (IM.out.later hb1)
  replace IE := Lib.hid (IE.out.later hb1)
  clear hb1
  have Ja := Lib.hid ja_
  clear ja_
  simp only at Ja hcap
  have l9 : (n : Int) ≤ (c1 : Int) := by omega
  have l10 : n ≤ c1 := by omega
  go_wp2_with fail
  refine (K2.out _ _ _ (Ja.out.take n) l10).mono ?_
  rintro e w2 ⟨M2, cm2, E2, ce2, P2, cp2, rfl, _, _, _, hb2⟩
  replace U := Lib.hid (U.out.later hb2)
  replace IM := Lib.hid (IM.out.later hb2)
  replace IE := Lib.hid (IE.out.later hb2)
  replace Ja := Lib.hid (Ja.out.later hb2)
  clear hb2
  simp only [Pk.Pkt.row, Pk.Pkt.zero, List.length_nil]
  replace U := Lib.hid (U.out.push (.cells #[.bool false, .int .u8 0, .int .u16 0, .int .u32 0, .int .u32 0, .slice M2 0 cm2, .bool false, .int .u16 0, .slice E2 0 ce2, .slice P2 0 cp2, .int .i64 0] 27))
  replace IM := Lib.hid (IM.out.push (.cells #[.bool false, .int .u8 0, .int .u16 0, .int .u32 0, .int .u32 0, .slice M2 0 cm2, .bool false, .int .u16 0, .slice E2 0 ce2, .slice P2 0 cp2, .int .i64 0] 27))
  replace IE := Lib.hid (IE.out.push (.cells #[.bool false, .int .u8 0, .int .u16 0, .int .u32 0, .int .u32 0, .slice M2 0 cm2, .bool false, .int .u16 0, .slice E2 0 ce2, .slice P2 0 cp2, .int .i64 0] 27))
  replace Ja := Lib.hid (Ja.out.push (.cells #[.bool false, .int .u8 0, .int .u16 0, .int .u32 0, .int .u32 0, .slice M2 0 cm2, .bool false, .int .u16 0, .slice E2 0 ce2, .slice P2 0 cp2, .int .i64 0] 27))
  go_wp2_with fail
  refine (rSame_any false 0 0 0 0 [] false 0 [] [] 0 M2 none E2 none P2 none cm2 0 ce2 0 cp2 0 _ IntsAt.nil IntsAt.nil IntsAt.nil IntsAt.nil IntsAt.nil IntsAt.nil (by decide)).mono ?_
  rintro e w3 ⟨rfl, hb3⟩
  replace U := Lib.hid (U.out.later hb3)
  replace IM := Lib.hid (IM.out.later hb3)
  replace IE := Lib.hid (IE.out.later hb3)
  replace Ja := Lib.hid (Ja.out.later hb3)
  clear hb3
  go_wp2_with fail
  refine (lives25 _).mono ?_
  rintro e w4 ⟨rfl, hb4⟩
  replace U := Lib.hid (U.out.later hb4)
  replace IM := Lib.hid (IM.out.later hb4)
  replace IE := Lib.hid (IE.out.later hb4)
  replace Ja := Lib.hid (Ja.out.later hb4)
  clear hb4
  go_wp2_with fail
  go_ret
  exact ⟨by simp, U.out⟩
end Go.Proofs.Ytbpcpgmbfnmacaa.packetCuts
