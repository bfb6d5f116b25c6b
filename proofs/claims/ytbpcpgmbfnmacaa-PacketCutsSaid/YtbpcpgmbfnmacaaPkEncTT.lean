/- Layer 25: Encode of the program (marker true, extended true). -/
import Derived.Test.YtbpcpgmbfnmacaaPkEnc0
import Derived.Deep.CutRange
import Derived.Deep.DeepCutAuto
namespace Go.Proofs.Ytbpcpgmbfnmacaa
open Go.RowKit
set_option linter.unusedVariables false
set_option linter.unusedSimpArgs false
attribute [local go_sem ↓] run_min_plain run_max_plain
attribute [local go_sem] setCell_drewN alloc_drewN
section
variable (ty sq ti so : Int) (Am : Option Addr) (mx : List Int) (cm : Nat) (ek : Int) (Ae : Option Addr) (et : List Int) (ce : Nat) (Ap : Option Addr) (pl : List Int) (cp : Nat) (pad : Int) (w : World)
set_option maxRecDepth 100000 in
set_option maxHeartbeats 6400000 in
theorem Enc_ttz (ty0 : 0 ≤ ty) (ty1 : ty ≤ 127) (sq0 : 0 ≤ sq) (sq1 : sq ≤ 65535) (ti0 : 0 ≤ ti) (ti1 : ti ≤ 4294967295) (so0 : 0 ≤ so) (so1 : so ≤ 4294967295) (ek0 : 0 ≤ ek) (ek1 : ek ≤ 65535) (hpad : pad = 0) (lm : mx.length ≤ 15) (le : et.length ≤ 1020) (le4 : et.length % 4 = 0) (lp : pl.length ≤ 1500) (hmx : Within 0 4294967295 mx) (hpb : 0 ≤ pad ∧ pad ≤ 255) (hek : True) (Im : IntsAt w w.heap.size .u32 Am mx) (Ie : IntsAt w w.heap.size .u8 Ae et) (Ip : IntsAt w w.heap.size .u8 Ap pl) : Calls Try.prog 13 #[.agg #[.bool true, .int .u8 ty, .int .u16 sq, .int .u32 ti, .int .u32 so, .slice Am mx.length cm, .bool true, .int .u16 ek, .slice Ae et.length ce, .slice Ap pl.length cp, .int .i64 pad]] w (EncRC (Pk.bytes ⟨true, ty, sq, ti, so, mx, true, ek, et, pl, pad⟩, 0) w) := by
  have kc := fun W => check_any true ty sq ti so Am mx cm ek Ae et ce Ap pl cp pad W true (by omega) (by omega) (by omega)
  have herr : Pk.err ⟨true, ty, sq, ti, so, mx, true, ek, et, pl, pad⟩ = 0 := by
    unfold Pk.err
    simp only
    rw [if_neg (by omega), if_neg (by intro h; rcases h with ⟨h1, h2⟩ | h3 <;> first | (cases h1; done) | omega), if_neg (by omega)]
  rw [herr] at kc
  clear herr
  have KC := Lib.hid kc
  have HM := Lib.hid hmx
  have IM := Lib.hid Im
  have IE := Lib.hid Ie
  have IP := Lib.hid Ip
  clear kc hmx Im Ie Ip hek
  obtain ⟨m, hm⟩ : ∃ m : Nat, m = mx.length := ⟨_, rfl⟩
  have hor := Pk.or_a ⟨mx.length, by omega⟩
  have hw0 : IntKind.u8.wrap (128 + (mx.length : Int)) = 128 + (mx.length : Int) := by rw [u8_wrap]; omega
  simp only at hor
  clear hm
  have hp0 : (pad != 0) = false := by rw [hpad]; rfl
  have HPAD := Lib.hid hpad
  clear hpad
  have hor2 := Pk.or_c ⟨mx.length, by omega⟩
  simp only at hor2
  have hor3 : bits BinOp.or IntKind.u8 ty 128 = ty + 128 := by
    obtain ⟨n, rfl⟩ := Int.eq_ofNat_of_zero_le ty0
    exact Pk.or_t ⟨n, by omega⟩
  have hsw : sq % 4294967296 = sq := by omega
  have hsw2 : IntKind.u32.wrap sq = sq := by rw [u32_wrap]; omega
  have hew : IntKind.u32.wrap ek = ek := by rw [u32_wrap]; omega
  go_enter Try.func13, Try.ntmps13
  go_wp2_with fail
  refine (KC.out _).mono ?_
  rintro e w1 ⟨rfl, hb1⟩
  have B1 := Lib.hid ((Blk.new w 27 #[.bool true, .int .u8 ty, .int .u16 sq, .int .u32 ti, .int .u32 so, .slice Am mx.length cm, .bool true, .int .u16 ek, .slice Ae et.length ce, .slice Ap pl.length cp, .int .i64 pad]).later hb1)
  have U1 := Lib.hid (((Bel.refl w).push (.cells #[.bool true, .int .u8 ty, .int .u16 sq, .int .u32 ti, .int .u32 so, .slice Am mx.length cm, .bool true, .int .u16 ek, .slice Ae et.length ce, .slice Ap pl.length cp, .int .i64 pad] 27)).later hb1)
  clear hb1 KC
  have hlt0 := B1.out.lt
  have c0 := B1.out.at 0 _ rfl
  have c1 := B1.out.at 1 _ rfl
  have c2 := B1.out.at 2 _ rfl
  have c3 := B1.out.at 3 _ rfl
  have c4 := B1.out.at 4 _ rfl
  have c5 := B1.out.at 5 _ rfl
  have c6 := B1.out.at 6 _ rfl
  have c7 := B1.out.at 7 _ rfl
  have c8 := B1.out.at 8 _ rfl
  have c9 := B1.out.at 9 _ rfl
  have c10 := B1.out.at 10 _ rfl
  go_wp2_with fail
  clear c0 c1 c2 c3 c4 c5 c6 c7 c8 c9 c10
  have D : Hid (EState w (w1.alloc (.cells #[.int .u8 (144 + (mx.length : Int)), .int .u8 (ty + 128)] 5)) [.bool true, .int .u8 ty, .int .u16 sq, .int .u32 ti, .int .u32 so, .slice Am mx.length cm, .bool true, .int .u16 ek, .slice Ae et.length ce, .slice Ap pl.length cp, .int .i64 pad] (some ⟨w1.heap.size, 0, none⟩) 2 [(144 + (mx.length : Int)), (ty + 128)]) := Lib.hid ⟨B1.out.push _, Bel.push U1.out _, Owns.lit w1 w.heap.size 5 (u8s [(144 + (mx.length : Int)), (ty + 128)]) 2 U1.out.size (by unfold maxLen; omega) rfl⟩
  obtain ⟨W0, hW0⟩ : ∃ W, W = w1.alloc (.cells #[.int .u8 (144 + (mx.length : Int)), .int .u8 (ty + 128)] 5) := ⟨_, rfl⟩
  rw [← hW0] at D ⊢
  obtain ⟨o0, ho0⟩ : ∃ o : List Int, o = [(144 + (mx.length : Int)), (ty + 128)] := ⟨_, rfl⟩
  have hq0 : (2 : Nat) = o0.length := by rw [ho0]; rfl
  rw [← ho0] at D
  have HE0 := Lib.hid ho0
  have hl0 : o0.length ≤ 10 := by rw [← hq0]; omega
  clear hW0 ho0 B1 U1
  rw [show Value.slice (some ⟨w1.heap.size, 0, none⟩) 2 2 = Value.slice (some ⟨w1.heap.size, 0, none⟩) o0.length 2 by rw [← hq0]]
  clear hq0
  refine (D.out.put sq 2 (by omega) (by omega) (by omega) (by omega)).mono ?_
  rintro e w11 ⟨A1, c1', rfl, D'⟩
  clear D
  have D := D'
  clear D'
  generalize hO1 : (o0 ++ be 2 (sq)) = o1 at *
  have hl1 : o1.length ≤ o0.length + 2 := by rw [← hO1, List.length_append, be_len]; omega
  have HE1 := Lib.hid hO1
  clear hO1
  have c0 := D.out.hb.at 0 _ rfl
  have c1 := D.out.hb.at 1 _ rfl
  have c2 := D.out.hb.at 2 _ rfl
  have c3 := D.out.hb.at 3 _ rfl
  have c4 := D.out.hb.at 4 _ rfl
  have c5 := D.out.hb.at 5 _ rfl
  have c6 := D.out.hb.at 6 _ rfl
  have c7 := D.out.hb.at 7 _ rfl
  have c8 := D.out.hb.at 8 _ rfl
  have c9 := D.out.hb.at 9 _ rfl
  have c10 := D.out.hb.at 10 _ rfl
  go_wp2_with fail
  clear c0 c1 c2 c3 c4 c5 c6 c7 c8 c9 c10
  refine (D.out.put ti 4 (by omega) (by omega) (by omega) (by omega)).mono ?_
  rintro e w12 ⟨A2, c2', rfl, D'⟩
  clear D
  have D := D'
  clear D'
  generalize hO2 : (o1 ++ be 4 (ti)) = o2 at *
  have hl2 : o2.length ≤ o1.length + 4 := by rw [← hO2, List.length_append, be_len]; omega
  have HE2 := Lib.hid hO2
  clear hO2
  have c0 := D.out.hb.at 0 _ rfl
  have c1 := D.out.hb.at 1 _ rfl
  have c2 := D.out.hb.at 2 _ rfl
  have c3 := D.out.hb.at 3 _ rfl
  have c4 := D.out.hb.at 4 _ rfl
  have c5 := D.out.hb.at 5 _ rfl
  have c6 := D.out.hb.at 6 _ rfl
  have c7 := D.out.hb.at 7 _ rfl
  have c8 := D.out.hb.at 8 _ rfl
  have c9 := D.out.hb.at 9 _ rfl
  have c10 := D.out.hb.at 10 _ rfl
  go_wp2_with fail
  clear c0 c1 c2 c3 c4 c5 c6 c7 c8 c9 c10
  refine (D.out.put so 4 (by omega) (by omega) (by omega) (by omega)).mono ?_
  rintro e w13 ⟨A3, c3', rfl, D'⟩
  clear D
  have D := D'
  clear D'
  generalize hO3 : (o2 ++ be 4 (so)) = o3 at *
  have hl3 : o3.length ≤ o2.length + 4 := by rw [← hO3, List.length_append, be_len]; omega
  have HE3 := Lib.hid hO3
  clear hO3
  have c0 := D.out.hb.at 0 _ rfl
  have c1 := D.out.hb.at 1 _ rfl
  have c2 := D.out.hb.at 2 _ rfl
  have c3 := D.out.hb.at 3 _ rfl
  have c4 := D.out.hb.at 4 _ rfl
  have c5 := D.out.hb.at 5 _ rfl
  have c6 := D.out.hb.at 6 _ rfl
  have c7 := D.out.hb.at 7 _ rfl
  have c8 := D.out.hb.at 8 _ rfl
  have c9 := D.out.hb.at 9 _ rfl
  have c10 := D.out.hb.at 10 _ rfl
  go_wp2_with fail
  clear c0 c1 c2 c3 c4 c5 c6 c7 c8 c9 c10
  go_loopg [7, 54] mx.length (fun gk s7 s54 wr => ∃ (k : Nat) (A' : Option Addr) (c' : Nat) (out : List Int), gk + k = mx.length ∧ s54 = .int .i64 k ∧ s7 = .slice A' out.length c' ∧ Hid (out = o3 ++ (mx.take k).flatMap (be 4)) ∧ Hid (out.length ≤ 20 + 4 * k) ∧ Hid (EState w wr [.bool true, .int .u8 ty, .int .u16 sq, .int .u32 ti, .int .u32 so, .slice Am mx.length cm, .bool true, .int .u16 ek, .slice Ae et.length ce, .slice Ap pl.length cp, .int .i64 pad] A' c' out))
  case atStart => exact ⟨0, A3, c3', o3, rfl, rfl, rfl, Lib.hid (by simp), Lib.hid (by omega), D⟩
  case round =>
    clear D
    obtain ⟨k, A', c', out, hg, rfl, rfl, HO, HL, D⟩ := hrel
    have hln := HL.out
    by_cases hlt : k < mx.length
    · have hi0 : (0 : Int) ≤ (k : Int) := by omega
      have hi1 : (k : Int) < (mx.length : Int) := by omega
      obtain ⟨b, off, rfl, hbB, hcell⟩ := IM.out (by omega)
      have q1 := (D.out.hu.cell (p := ⟨b, off + k, none⟩) hbB).trans (hcell k hlt)
      obtain ⟨z0, z1⟩ := HM.out.at hlt
      have hst := flat4_take mx k hlt
      generalize mx.getD k 0 = z at *
      have HST := Lib.hid hst
      clear hst hcell
      go_wp2_with fail
      refine (D.out.put z 4 (by omega) z0 z1 (by omega)).mono ?_
      rintro e w9 ⟨A9, c9', rfl, D'⟩
      go_wp2_with fail
      go_roundg (gk - 1)
      case measure => omega
      case rel => exact ⟨k + 1, A9, c9', out ++ be 4 z, by omega, by go_num, by first | rfl | rw [List.length_append, be_len], Lib.hid (by rw [HST.out, HO.out, List.append_assoc]), Lib.hid (by rw [List.length_append, be_len]; omega), D'⟩
    · obtain rfl : k = mx.length := by omega
      have hi1 : (mx.length : Int) ≤ (mx.length : Int) := Int.le_refl _
      have hx : out = o3 ++ mx.flatMap (be 4) := by rw [HO.out, List.take_length]
      have HX := Lib.hid hx
      clear hx HO HL
      have c0 := D.out.hb.at 0 _ rfl
      have c1 := D.out.hb.at 1 _ rfl
      have c2 := D.out.hb.at 2 _ rfl
      have c3 := D.out.hb.at 3 _ rfl
      have c4 := D.out.hb.at 4 _ rfl
      have c5 := D.out.hb.at 5 _ rfl
      have c6 := D.out.hb.at 6 _ rfl
      have c7 := D.out.hb.at 7 _ rfl
      have c8 := D.out.hb.at 8 _ rfl
      have c9 := D.out.hb.at 9 _ rfl
      have c10 := D.out.hb.at 10 _ rfl
      go_wp2_with fail
      clear c0 c1 c2 c3 c4 c5 c6 c7 c8 c9 c10
      refine (D.out.put ek 2 (by omega) (by omega) (by omega) (by omega)).mono ?_
      rintro e w14 ⟨A4, c4', rfl, D'⟩
      clear D
      have D := D'
      clear D'
      generalize hO4 : (out ++ be 2 (ek)) = o4 at *
      have hl4 : o4.length ≤ out.length + 2 := by rw [← hO4, List.length_append, be_len]; omega
      have HE4 := Lib.hid hO4
      clear hO4
      have hdv : (et.length : Int).tdiv 4 = (et.length : Int) / 4 := Int.tdiv_eq_ediv_of_nonneg (by omega)
      have hdw : IntKind.u32.wrap ((et.length : Int) / 4) = (et.length : Int) / 4 := by rw [u32_wrap]; omega
      have c0 := D.out.hb.at 0 _ rfl
      have c1 := D.out.hb.at 1 _ rfl
      have c2 := D.out.hb.at 2 _ rfl
      have c3 := D.out.hb.at 3 _ rfl
      have c4 := D.out.hb.at 4 _ rfl
      have c5 := D.out.hb.at 5 _ rfl
      have c6 := D.out.hb.at 6 _ rfl
      have c7 := D.out.hb.at 7 _ rfl
      have c8 := D.out.hb.at 8 _ rfl
      have c9 := D.out.hb.at 9 _ rfl
      have c10 := D.out.hb.at 10 _ rfl
      go_wp2_with fail
      clear c0 c1 c2 c3 c4 c5 c6 c7 c8 c9 c10
      refine (D.out.put ((et.length : Int) / 4) 2 (by omega) (by omega) (by omega) (by omega)).mono ?_
      rintro e w15 ⟨A5, c5', rfl, D'⟩
      clear D
      have D := D'
      clear D'
      generalize hO5 : (o4 ++ be 2 (((et.length : Int) / 4))) = o5 at *
      have hl5 : o5.length ≤ o4.length + 2 := by rw [← hO5, List.length_append, be_len]; omega
      have HE5 := Lib.hid hO5
      clear hO5
      have c0 := D.out.hb.at 0 _ rfl
      have c1 := D.out.hb.at 1 _ rfl
      have c2 := D.out.hb.at 2 _ rfl
      have c3 := D.out.hb.at 3 _ rfl
      have c4 := D.out.hb.at 4 _ rfl
      have c5 := D.out.hb.at 5 _ rfl
      have c6 := D.out.hb.at 6 _ rfl
      have c7 := D.out.hb.at 7 _ rfl
      have c8 := D.out.hb.at 8 _ rfl
      have c9 := D.out.hb.at 9 _ rfl
      have c10 := D.out.hb.at 10 _ rfl
      have c0 := D.out.hb.at 0 _ rfl
      have c1 := D.out.hb.at 1 _ rfl
      have c2 := D.out.hb.at 2 _ rfl
      have c3 := D.out.hb.at 3 _ rfl
      have c4 := D.out.hb.at 4 _ rfl
      have c5 := D.out.hb.at 5 _ rfl
      have c6 := D.out.hb.at 6 _ rfl
      have c7 := D.out.hb.at 7 _ rfl
      have c8 := D.out.hb.at 8 _ rfl
      have c9 := D.out.hb.at 9 _ rfl
      have c10 := D.out.hb.at 10 _ rfl
      have hws := D.out.hu.size
      go_upto_region 25 with (at_builtin; go_loud (refine wpList_append_ints rfl (.tmp 76) (.tmp 78) 25 rfl w.heap.size 5 1 (.int .u8 0) Try.underlying25 info_u8 rfl A5 o5.length c5' (u8s o5) rfl D.out.ho _ .u8 Ae ce et rfl (IE.out.below D.out.hu) (by unfold maxLen; omega) (by omega) hws (o5.length + et.length) rfl ?_); intro A21 c21' w121 hown hgr hat)
      clear c0 c1 c2 c3 c4 c5 c6 c7 c8 c9 c10 hws
      have D' := Lib.hid (D.out.grown (l := et) (by rw [List.length_append]) rfl hown hgr)
      clear D hown hgr hat
      have D := D'
      clear D'
      obtain ⟨o21, hO21⟩ : ∃ o, o = o5 ++ et := ⟨_, rfl⟩
      rw [← hO21] at D
      have HE21 := Lib.hid hO21
      have hq21 : o21.length = o5.length + (et).length := by rw [hO21, List.length_append]
      have HL21 := Lib.hid hq21
      have hl21 : o21.length ≤ o5.length + (et).length := by omega
      clear hq21 hO21
      rw [show o5.length + et.length = o21.length from HL21.out.symm]
      have c0 := D.out.hb.at 0 _ rfl
      have c1 := D.out.hb.at 1 _ rfl
      have c2 := D.out.hb.at 2 _ rfl
      have c3 := D.out.hb.at 3 _ rfl
      have c4 := D.out.hb.at 4 _ rfl
      have c5 := D.out.hb.at 5 _ rfl
      have c6 := D.out.hb.at 6 _ rfl
      have c7 := D.out.hb.at 7 _ rfl
      have c8 := D.out.hb.at 8 _ rfl
      have c9 := D.out.hb.at 9 _ rfl
      have c10 := D.out.hb.at 10 _ rfl
      have hws := D.out.hu.size
      go_upto_region 26 with (at_builtin; go_loud (refine wpList_append_ints rfl (.tmp 80) (.tmp 82) 25 rfl w.heap.size 5 1 (.int .u8 0) Try.underlying25 info_u8 rfl A21 o21.length c21' (u8s o21) rfl D.out.ho _ .u8 Ap cp pl rfl (IP.out.below D.out.hu) (by unfold maxLen; omega) (by omega) hws (o21.length + pl.length) rfl ?_); intro A22 c22' w122 hown hgr hat)
      clear c0 c1 c2 c3 c4 c5 c6 c7 c8 c9 c10 hws
      have D' := Lib.hid (D.out.grown (l := pl) (by rw [List.length_append]) rfl hown hgr)
      clear D hown hgr hat
      have D := D'
      clear D'
      obtain ⟨o22, hO22⟩ : ∃ o, o = o21 ++ pl := ⟨_, rfl⟩
      rw [← hO22] at D
      have HE22 := Lib.hid hO22
      have hq22 : o22.length = o21.length + (pl).length := by rw [hO22, List.length_append]
      have HL22 := Lib.hid hq22
      have hl22 : o22.length ≤ o21.length + (pl).length := by omega
      clear hq22 hO22
      rw [show o21.length + pl.length = o22.length from HL22.out.symm]
      have hfin : o22 = Pk.bytes ⟨true, ty, sq, ti, so, mx, true, ek, et, pl, pad⟩ := by
        unfold Pk.bytes Pk.lead Pk.tail
        rw [HE22.out, HE21.out, ← HE5.out, ← HE4.out, HX.out, ← HE3.out, ← HE2.out, ← HE1.out, HE0.out]
        rw [HPAD.out]
        simp [List.append_assoc]
        try omega
      have HFIN := Lib.hid hfin
      clear hfin
      have c0 := D.out.hb.at 0 _ rfl
      have c1 := D.out.hb.at 1 _ rfl
      have c2 := D.out.hb.at 2 _ rfl
      have c3 := D.out.hb.at 3 _ rfl
      have c4 := D.out.hb.at 4 _ rfl
      have c5 := D.out.hb.at 5 _ rfl
      have c6 := D.out.hb.at 6 _ rfl
      have c7 := D.out.hb.at 7 _ rfl
      have c8 := D.out.hb.at 8 _ rfl
      have c9 := D.out.hb.at 9 _ rfl
      have c10 := D.out.hb.at 10 _ rfl
      go_wp2_with fail
      go_ret2
      rw [← HFIN.out]
      exact ⟨A22, c22', rfl, D.out.ho.cap, IntsNew.of_own D.out.ho (Nat.le_refl _), D.out.hu⟩
set_option maxRecDepth 100000 in
set_option maxHeartbeats 6400000 in
theorem Enc_ttp (ty0 : 0 ≤ ty) (ty1 : ty ≤ 127) (sq0 : 0 ≤ sq) (sq1 : sq ≤ 65535) (ti0 : 0 ≤ ti) (ti1 : ti ≤ 4294967295) (so0 : 0 ≤ so) (so1 : so ≤ 4294967295) (ek0 : 0 ≤ ek) (ek1 : ek ≤ 65535) (hpad : 1 ≤ pad) (lm : mx.length ≤ 15) (le : et.length ≤ 1020) (le4 : et.length % 4 = 0) (lp : pl.length ≤ 1500) (hmx : Within 0 4294967295 mx) (hpb : 0 ≤ pad ∧ pad ≤ 255) (hek : True) (Im : IntsAt w w.heap.size .u32 Am mx) (Ie : IntsAt w w.heap.size .u8 Ae et) (Ip : IntsAt w w.heap.size .u8 Ap pl) : Calls Try.prog 13 #[.agg #[.bool true, .int .u8 ty, .int .u16 sq, .int .u32 ti, .int .u32 so, .slice Am mx.length cm, .bool true, .int .u16 ek, .slice Ae et.length ce, .slice Ap pl.length cp, .int .i64 pad]] w (EncRC (Pk.bytes ⟨true, ty, sq, ti, so, mx, true, ek, et, pl, pad⟩, 0) w) := by
  have kc := fun W => check_any true ty sq ti so Am mx cm ek Ae et ce Ap pl cp pad W true (by omega) (by omega) (by omega)
  have herr : Pk.err ⟨true, ty, sq, ti, so, mx, true, ek, et, pl, pad⟩ = 0 := by
    unfold Pk.err
    simp only
    rw [if_neg (by omega), if_neg (by intro h; rcases h with ⟨h1, h2⟩ | h3 <;> first | (cases h1; done) | omega), if_neg (by omega)]
  rw [herr] at kc
  clear herr
  have KC := Lib.hid kc
  have HM := Lib.hid hmx
  have IM := Lib.hid Im
  have IE := Lib.hid Ie
  have IP := Lib.hid Ip
  clear kc hmx Im Ie Ip hek
  obtain ⟨m, hm⟩ : ∃ m : Nat, m = mx.length := ⟨_, rfl⟩
  have hor := Pk.or_a ⟨mx.length, by omega⟩
  have hw0 : IntKind.u8.wrap (128 + (mx.length : Int)) = 128 + (mx.length : Int) := by rw [u8_wrap]; omega
  simp only at hor
  clear hm
  have hor1 := Pk.or_b ⟨mx.length, by omega⟩
  simp only at hor1
  have hp0 : (pad != 0) = true := by rw [bne_iff_ne]; omega
  have hor2 := Pk.or_d ⟨mx.length, by omega⟩
  simp only at hor2
  have hor3 : bits BinOp.or IntKind.u8 ty 128 = ty + 128 := by
    obtain ⟨n, rfl⟩ := Int.eq_ofNat_of_zero_le ty0
    exact Pk.or_t ⟨n, by omega⟩
  have hsw : sq % 4294967296 = sq := by omega
  have hsw2 : IntKind.u32.wrap sq = sq := by rw [u32_wrap]; omega
  have hew : IntKind.u32.wrap ek = ek := by rw [u32_wrap]; omega
  go_enter Try.func13, Try.ntmps13
  go_wp2_with fail
  refine (KC.out _).mono ?_
  rintro e w1 ⟨rfl, hb1⟩
  have B1 := Lib.hid ((Blk.new w 27 #[.bool true, .int .u8 ty, .int .u16 sq, .int .u32 ti, .int .u32 so, .slice Am mx.length cm, .bool true, .int .u16 ek, .slice Ae et.length ce, .slice Ap pl.length cp, .int .i64 pad]).later hb1)
  have U1 := Lib.hid (((Bel.refl w).push (.cells #[.bool true, .int .u8 ty, .int .u16 sq, .int .u32 ti, .int .u32 so, .slice Am mx.length cm, .bool true, .int .u16 ek, .slice Ae et.length ce, .slice Ap pl.length cp, .int .i64 pad] 27)).later hb1)
  clear hb1 KC
  have hlt0 := B1.out.lt
  have c0 := B1.out.at 0 _ rfl
  have c1 := B1.out.at 1 _ rfl
  have c2 := B1.out.at 2 _ rfl
  have c3 := B1.out.at 3 _ rfl
  have c4 := B1.out.at 4 _ rfl
  have c5 := B1.out.at 5 _ rfl
  have c6 := B1.out.at 6 _ rfl
  have c7 := B1.out.at 7 _ rfl
  have c8 := B1.out.at 8 _ rfl
  have c9 := B1.out.at 9 _ rfl
  have c10 := B1.out.at 10 _ rfl
  go_wp2_with fail
  clear c0 c1 c2 c3 c4 c5 c6 c7 c8 c9 c10
  have D : Hid (EState w (w1.alloc (.cells #[.int .u8 (176 + (mx.length : Int)), .int .u8 (ty + 128)] 5)) [.bool true, .int .u8 ty, .int .u16 sq, .int .u32 ti, .int .u32 so, .slice Am mx.length cm, .bool true, .int .u16 ek, .slice Ae et.length ce, .slice Ap pl.length cp, .int .i64 pad] (some ⟨w1.heap.size, 0, none⟩) 2 [(176 + (mx.length : Int)), (ty + 128)]) := Lib.hid ⟨B1.out.push _, Bel.push U1.out _, Owns.lit w1 w.heap.size 5 (u8s [(176 + (mx.length : Int)), (ty + 128)]) 2 U1.out.size (by unfold maxLen; omega) rfl⟩
  obtain ⟨W0, hW0⟩ : ∃ W, W = w1.alloc (.cells #[.int .u8 (176 + (mx.length : Int)), .int .u8 (ty + 128)] 5) := ⟨_, rfl⟩
  rw [← hW0] at D ⊢
  obtain ⟨o0, ho0⟩ : ∃ o : List Int, o = [(176 + (mx.length : Int)), (ty + 128)] := ⟨_, rfl⟩
  have hq0 : (2 : Nat) = o0.length := by rw [ho0]; rfl
  rw [← ho0] at D
  have HE0 := Lib.hid ho0
  have hl0 : o0.length ≤ 10 := by rw [← hq0]; omega
  clear hW0 ho0 B1 U1
  rw [show Value.slice (some ⟨w1.heap.size, 0, none⟩) 2 2 = Value.slice (some ⟨w1.heap.size, 0, none⟩) o0.length 2 by rw [← hq0]]
  clear hq0
  refine (D.out.put sq 2 (by omega) (by omega) (by omega) (by omega)).mono ?_
  rintro e w11 ⟨A1, c1', rfl, D'⟩
  clear D
  have D := D'
  clear D'
  generalize hO1 : (o0 ++ be 2 (sq)) = o1 at *
  have hl1 : o1.length ≤ o0.length + 2 := by rw [← hO1, List.length_append, be_len]; omega
  have HE1 := Lib.hid hO1
  clear hO1
  have c0 := D.out.hb.at 0 _ rfl
  have c1 := D.out.hb.at 1 _ rfl
  have c2 := D.out.hb.at 2 _ rfl
  have c3 := D.out.hb.at 3 _ rfl
  have c4 := D.out.hb.at 4 _ rfl
  have c5 := D.out.hb.at 5 _ rfl
  have c6 := D.out.hb.at 6 _ rfl
  have c7 := D.out.hb.at 7 _ rfl
  have c8 := D.out.hb.at 8 _ rfl
  have c9 := D.out.hb.at 9 _ rfl
  have c10 := D.out.hb.at 10 _ rfl
  go_wp2_with fail
  clear c0 c1 c2 c3 c4 c5 c6 c7 c8 c9 c10
  refine (D.out.put ti 4 (by omega) (by omega) (by omega) (by omega)).mono ?_
  rintro e w12 ⟨A2, c2', rfl, D'⟩
  clear D
  have D := D'
  clear D'
  generalize hO2 : (o1 ++ be 4 (ti)) = o2 at *
  have hl2 : o2.length ≤ o1.length + 4 := by rw [← hO2, List.length_append, be_len]; omega
  have HE2 := Lib.hid hO2
  clear hO2
  have c0 := D.out.hb.at 0 _ rfl
  have c1 := D.out.hb.at 1 _ rfl
  have c2 := D.out.hb.at 2 _ rfl
  have c3 := D.out.hb.at 3 _ rfl
  have c4 := D.out.hb.at 4 _ rfl
  have c5 := D.out.hb.at 5 _ rfl
  have c6 := D.out.hb.at 6 _ rfl
  have c7 := D.out.hb.at 7 _ rfl
  have c8 := D.out.hb.at 8 _ rfl
  have c9 := D.out.hb.at 9 _ rfl
  have c10 := D.out.hb.at 10 _ rfl
  go_wp2_with fail
  clear c0 c1 c2 c3 c4 c5 c6 c7 c8 c9 c10
  refine (D.out.put so 4 (by omega) (by omega) (by omega) (by omega)).mono ?_
  rintro e w13 ⟨A3, c3', rfl, D'⟩
  clear D
  have D := D'
  clear D'
  generalize hO3 : (o2 ++ be 4 (so)) = o3 at *
  have hl3 : o3.length ≤ o2.length + 4 := by rw [← hO3, List.length_append, be_len]; omega
  have HE3 := Lib.hid hO3
  clear hO3
  have c0 := D.out.hb.at 0 _ rfl
  have c1 := D.out.hb.at 1 _ rfl
  have c2 := D.out.hb.at 2 _ rfl
  have c3 := D.out.hb.at 3 _ rfl
  have c4 := D.out.hb.at 4 _ rfl
  have c5 := D.out.hb.at 5 _ rfl
  have c6 := D.out.hb.at 6 _ rfl
  have c7 := D.out.hb.at 7 _ rfl
  have c8 := D.out.hb.at 8 _ rfl
  have c9 := D.out.hb.at 9 _ rfl
  have c10 := D.out.hb.at 10 _ rfl
  go_wp2_with fail
  clear c0 c1 c2 c3 c4 c5 c6 c7 c8 c9 c10
  go_loopg [7, 54] mx.length (fun gk s7 s54 wr => ∃ (k : Nat) (A' : Option Addr) (c' : Nat) (out : List Int), gk + k = mx.length ∧ s54 = .int .i64 k ∧ s7 = .slice A' out.length c' ∧ Hid (out = o3 ++ (mx.take k).flatMap (be 4)) ∧ Hid (out.length ≤ 20 + 4 * k) ∧ Hid (EState w wr [.bool true, .int .u8 ty, .int .u16 sq, .int .u32 ti, .int .u32 so, .slice Am mx.length cm, .bool true, .int .u16 ek, .slice Ae et.length ce, .slice Ap pl.length cp, .int .i64 pad] A' c' out))
  case atStart => exact ⟨0, A3, c3', o3, rfl, rfl, rfl, Lib.hid (by simp), Lib.hid (by omega), D⟩
  case round =>
    clear D
    obtain ⟨k, A', c', out, hg, rfl, rfl, HO, HL, D⟩ := hrel
    have hln := HL.out
    by_cases hlt : k < mx.length
    · have hi0 : (0 : Int) ≤ (k : Int) := by omega
      have hi1 : (k : Int) < (mx.length : Int) := by omega
      obtain ⟨b, off, rfl, hbB, hcell⟩ := IM.out (by omega)
      have q1 := (D.out.hu.cell (p := ⟨b, off + k, none⟩) hbB).trans (hcell k hlt)
      obtain ⟨z0, z1⟩ := HM.out.at hlt
      have hst := flat4_take mx k hlt
      generalize mx.getD k 0 = z at *
      have HST := Lib.hid hst
      clear hst hcell
      go_wp2_with fail
      refine (D.out.put z 4 (by omega) z0 z1 (by omega)).mono ?_
      rintro e w9 ⟨A9, c9', rfl, D'⟩
      go_wp2_with fail
      go_roundg (gk - 1)
      case measure => omega
      case rel => exact ⟨k + 1, A9, c9', out ++ be 4 z, by omega, by go_num, by first | rfl | rw [List.length_append, be_len], Lib.hid (by rw [HST.out, HO.out, List.append_assoc]), Lib.hid (by rw [List.length_append, be_len]; omega), D'⟩
    · obtain rfl : k = mx.length := by omega
      have hi1 : (mx.length : Int) ≤ (mx.length : Int) := Int.le_refl _
      have hx : out = o3 ++ mx.flatMap (be 4) := by rw [HO.out, List.take_length]
      have HX := Lib.hid hx
      clear hx HO HL
      have c0 := D.out.hb.at 0 _ rfl
      have c1 := D.out.hb.at 1 _ rfl
      have c2 := D.out.hb.at 2 _ rfl
      have c3 := D.out.hb.at 3 _ rfl
      have c4 := D.out.hb.at 4 _ rfl
      have c5 := D.out.hb.at 5 _ rfl
      have c6 := D.out.hb.at 6 _ rfl
      have c7 := D.out.hb.at 7 _ rfl
      have c8 := D.out.hb.at 8 _ rfl
      have c9 := D.out.hb.at 9 _ rfl
      have c10 := D.out.hb.at 10 _ rfl
      go_wp2_with fail
      clear c0 c1 c2 c3 c4 c5 c6 c7 c8 c9 c10
      refine (D.out.put ek 2 (by omega) (by omega) (by omega) (by omega)).mono ?_
      rintro e w14 ⟨A4, c4', rfl, D'⟩
      clear D
      have D := D'
      clear D'
      generalize hO4 : (out ++ be 2 (ek)) = o4 at *
      have hl4 : o4.length ≤ out.length + 2 := by rw [← hO4, List.length_append, be_len]; omega
      have HE4 := Lib.hid hO4
      clear hO4
      have hdv : (et.length : Int).tdiv 4 = (et.length : Int) / 4 := Int.tdiv_eq_ediv_of_nonneg (by omega)
      have hdw : IntKind.u32.wrap ((et.length : Int) / 4) = (et.length : Int) / 4 := by rw [u32_wrap]; omega
      have c0 := D.out.hb.at 0 _ rfl
      have c1 := D.out.hb.at 1 _ rfl
      have c2 := D.out.hb.at 2 _ rfl
      have c3 := D.out.hb.at 3 _ rfl
      have c4 := D.out.hb.at 4 _ rfl
      have c5 := D.out.hb.at 5 _ rfl
      have c6 := D.out.hb.at 6 _ rfl
      have c7 := D.out.hb.at 7 _ rfl
      have c8 := D.out.hb.at 8 _ rfl
      have c9 := D.out.hb.at 9 _ rfl
      have c10 := D.out.hb.at 10 _ rfl
      go_wp2_with fail
      clear c0 c1 c2 c3 c4 c5 c6 c7 c8 c9 c10
      refine (D.out.put ((et.length : Int) / 4) 2 (by omega) (by omega) (by omega) (by omega)).mono ?_
      rintro e w15 ⟨A5, c5', rfl, D'⟩
      clear D
      have D := D'
      clear D'
      generalize hO5 : (o4 ++ be 2 (((et.length : Int) / 4))) = o5 at *
      have hl5 : o5.length ≤ o4.length + 2 := by rw [← hO5, List.length_append, be_len]; omega
      have HE5 := Lib.hid hO5
      clear hO5
      have c0 := D.out.hb.at 0 _ rfl
      have c1 := D.out.hb.at 1 _ rfl
      have c2 := D.out.hb.at 2 _ rfl
      have c3 := D.out.hb.at 3 _ rfl
      have c4 := D.out.hb.at 4 _ rfl
      have c5 := D.out.hb.at 5 _ rfl
      have c6 := D.out.hb.at 6 _ rfl
      have c7 := D.out.hb.at 7 _ rfl
      have c8 := D.out.hb.at 8 _ rfl
      have c9 := D.out.hb.at 9 _ rfl
      have c10 := D.out.hb.at 10 _ rfl
      have c0 := D.out.hb.at 0 _ rfl
      have c1 := D.out.hb.at 1 _ rfl
      have c2 := D.out.hb.at 2 _ rfl
      have c3 := D.out.hb.at 3 _ rfl
      have c4 := D.out.hb.at 4 _ rfl
      have c5 := D.out.hb.at 5 _ rfl
      have c6 := D.out.hb.at 6 _ rfl
      have c7 := D.out.hb.at 7 _ rfl
      have c8 := D.out.hb.at 8 _ rfl
      have c9 := D.out.hb.at 9 _ rfl
      have c10 := D.out.hb.at 10 _ rfl
      have hws := D.out.hu.size
      go_upto_region 25 with (at_builtin; go_loud (refine wpList_append_ints rfl (.tmp 76) (.tmp 78) 25 rfl w.heap.size 5 1 (.int .u8 0) Try.underlying25 info_u8 rfl A5 o5.length c5' (u8s o5) rfl D.out.ho _ .u8 Ae ce et rfl (IE.out.below D.out.hu) (by unfold maxLen; omega) (by omega) hws (o5.length + et.length) rfl ?_); intro A21 c21' w121 hown hgr hat)
      clear c0 c1 c2 c3 c4 c5 c6 c7 c8 c9 c10 hws
      have D' := Lib.hid (D.out.grown (l := et) (by rw [List.length_append]) rfl hown hgr)
      clear D hown hgr hat
      have D := D'
      clear D'
      obtain ⟨o21, hO21⟩ : ∃ o, o = o5 ++ et := ⟨_, rfl⟩
      rw [← hO21] at D
      have HE21 := Lib.hid hO21
      have hq21 : o21.length = o5.length + (et).length := by rw [hO21, List.length_append]
      have HL21 := Lib.hid hq21
      have hl21 : o21.length ≤ o5.length + (et).length := by omega
      clear hq21 hO21
      rw [show o5.length + et.length = o21.length from HL21.out.symm]
      have c0 := D.out.hb.at 0 _ rfl
      have c1 := D.out.hb.at 1 _ rfl
      have c2 := D.out.hb.at 2 _ rfl
      have c3 := D.out.hb.at 3 _ rfl
      have c4 := D.out.hb.at 4 _ rfl
      have c5 := D.out.hb.at 5 _ rfl
      have c6 := D.out.hb.at 6 _ rfl
      have c7 := D.out.hb.at 7 _ rfl
      have c8 := D.out.hb.at 8 _ rfl
      have c9 := D.out.hb.at 9 _ rfl
      have c10 := D.out.hb.at 10 _ rfl
      have hws := D.out.hu.size
      go_upto_region 26 with (at_builtin; go_loud (refine wpList_append_ints rfl (.tmp 80) (.tmp 82) 25 rfl w.heap.size 5 1 (.int .u8 0) Try.underlying25 info_u8 rfl A21 o21.length c21' (u8s o21) rfl D.out.ho _ .u8 Ap cp pl rfl (IP.out.below D.out.hu) (by unfold maxLen; omega) (by omega) hws (o21.length + pl.length) rfl ?_); intro A22 c22' w122 hown hgr hat)
      clear c0 c1 c2 c3 c4 c5 c6 c7 c8 c9 c10 hws
      have D' := Lib.hid (D.out.grown (l := pl) (by rw [List.length_append]) rfl hown hgr)
      clear D hown hgr hat
      have D := D'
      clear D'
      obtain ⟨o22, hO22⟩ : ∃ o, o = o21 ++ pl := ⟨_, rfl⟩
      rw [← hO22] at D
      have HE22 := Lib.hid hO22
      have hq22 : o22.length = o21.length + (pl).length := by rw [hO22, List.length_append]
      have HL22 := Lib.hid hq22
      have hl22 : o22.length ≤ o21.length + (pl).length := by omega
      clear hq22 hO22
      rw [show o21.length + pl.length = o22.length from HL22.out.symm]
      obtain ⟨PZ, hPZ⟩ : ∃ n : Nat, (n : Int) = pad - 1 := ⟨(pad - 1).toNat, by omega⟩
      have hpz : IntKind.i64.wrap (pad - 1) = (PZ : Int) := by rw [hPZ]; exact i64_small _ (by omega) (by omega)
      have hpz2 : pad - 1 = (PZ : Int) := hPZ.symm
      have HPZ := Lib.hid hPZ
      clear hPZ
      have c0 := D.out.hb.at 0 _ rfl
      have c1 := D.out.hb.at 1 _ rfl
      have c2 := D.out.hb.at 2 _ rfl
      have c3 := D.out.hb.at 3 _ rfl
      have c4 := D.out.hb.at 4 _ rfl
      have c5 := D.out.hb.at 5 _ rfl
      have c6 := D.out.hb.at 6 _ rfl
      have c7 := D.out.hb.at 7 _ rfl
      have c8 := D.out.hb.at 8 _ rfl
      have c9 := D.out.hb.at 9 _ rfl
      have c10 := D.out.hb.at 10 _ rfl
      have hws := D.out.hu.size
      go_upto_region 28 with (at_builtin; go_loud (refine wpList_append_zeros rfl (.tmp 87) (.tmp 90) 25 3 rfl w.heap.size 5 1 (.int .u8 0) .i64 Try.underlying25 Try.underlying3 info_u8 rfl A22 o22.length c22' (u8s o22) rfl D.out.ho PZ rfl (by unfold maxLen; omega) (by omega) hws (o22.length + PZ) rfl ?_); intro A23 c23' w123 hown hgr hat)
      clear c0 c1 c2 c3 c4 c5 c6 c7 c8 c9 c10 hws
      have D' := Lib.hid (D.out.grown (l := List.replicate PZ (0 : Int)) (by rw [List.length_append, List.length_replicate]) (by simp [u8s]) hown hgr)
      clear D hown hgr hat
      have D := D'
      clear D'
      obtain ⟨o23, hO23⟩ : ∃ o, o = o22 ++ List.replicate PZ (0 : Int) := ⟨_, rfl⟩
      rw [← hO23] at D
      have HE23 := Lib.hid hO23
      have hq23 : o23.length = o22.length + (List.replicate PZ (0 : Int)).length := by rw [hO23, List.length_append]
      have HL23 := Lib.hid hq23
      have hl23 : o23.length ≤ o22.length + (List.replicate PZ (0 : Int)).length := by omega
      clear hq23 hO23
      rw [List.length_replicate] at hl23
      rw [show o22.length + PZ = o23.length by rw [HL23.out, List.length_replicate]]
      have hpw : IntKind.u8.wrap pad = pad := by rw [u8_wrap]; omega
      have c0 := D.out.hb.at 0 _ rfl
      have c1 := D.out.hb.at 1 _ rfl
      have c2 := D.out.hb.at 2 _ rfl
      have c3 := D.out.hb.at 3 _ rfl
      have c4 := D.out.hb.at 4 _ rfl
      have c5 := D.out.hb.at 5 _ rfl
      have c6 := D.out.hb.at 6 _ rfl
      have c7 := D.out.hb.at 7 _ rfl
      have c8 := D.out.hb.at 8 _ rfl
      have c9 := D.out.hb.at 9 _ rfl
      have c10 := D.out.hb.at 10 _ rfl
      have hws := D.out.hu.size
      go_upto_region 29 with (at_builtin; go_loud (refine wpList_append_at rfl _ _ 25 rfl w.heap.size 5 1 1 (.int .u8 0) Try.underlying25 info_u8 rfl (by decide) A23 o23.length c23' (u8s o23) rfl D.out.ho [.int .u8 pad] rfl (by simp [Value.oneCell']) rfl (by unfold maxLen; omega) (by omega) hws ?_); intro A24 c24' w124 hown hgr hat)
      clear c0 c1 c2 c3 c4 c5 c6 c7 c8 c9 c10 hws
      have D' := Lib.hid (D.out.grown (l := [pad]) (by rw [List.length_append]; rfl) rfl hown hgr)
      clear D hown hgr hat
      have D := D'
      clear D'
      obtain ⟨o24, hO24⟩ : ∃ o, o = o23 ++ [pad] := ⟨_, rfl⟩
      rw [← hO24] at D
      have HE24 := Lib.hid hO24
      have hq24 : o24.length = o23.length + ([pad]).length := by rw [hO24, List.length_append]
      have HL24 := Lib.hid hq24
      have hl24 : o24.length ≤ o23.length + ([pad]).length := by omega
      clear hq24 hO24
      rw [show o23.length + 1 = o24.length by rw [HL24.out]; rfl]
      have hfin : o24 = Pk.bytes ⟨true, ty, sq, ti, so, mx, true, ek, et, pl, pad⟩ := by
        unfold Pk.bytes Pk.lead Pk.tail
        rw [HE24.out, HE23.out, HE22.out, HE21.out, ← HE5.out, ← HE4.out, HX.out, ← HE3.out, ← HE2.out, ← HE1.out, HE0.out]
        have e1 : (pad - 1).toNat = PZ := by have := HPZ.out; omega
        have hn : ¬pad = 0 := by omega
        simp only [e1]
        simp [List.append_assoc, hn]
        try omega
      have HFIN := Lib.hid hfin
      clear hfin
      have c0 := D.out.hb.at 0 _ rfl
      have c1 := D.out.hb.at 1 _ rfl
      have c2 := D.out.hb.at 2 _ rfl
      have c3 := D.out.hb.at 3 _ rfl
      have c4 := D.out.hb.at 4 _ rfl
      have c5 := D.out.hb.at 5 _ rfl
      have c6 := D.out.hb.at 6 _ rfl
      have c7 := D.out.hb.at 7 _ rfl
      have c8 := D.out.hb.at 8 _ rfl
      have c9 := D.out.hb.at 9 _ rfl
      have c10 := D.out.hb.at 10 _ rfl
      go_wp2_with fail
      go_ret2
      rw [← HFIN.out]
      exact ⟨A24, c24', rfl, D.out.ho.cap, IntsNew.of_own D.out.ho (Nat.le_refl _), D.out.hu⟩
end
end Go.Proofs.Ytbpcpgmbfnmacaa
