/- Layer 25: Encode of the reference (marker false, extended false). Layer 25: Encode of the reference (marker true, extended false). -/
import Derived.Test.YtbpcpgmbfnmacaaPkREnc0
namespace Go.Proofs.Ytbpcpgmbfnmacaa
open Go.RowKit
set_option linter.unusedVariables false
set_option linter.unusedSimpArgs false
attribute [local go_sem ↓] run_min_plain run_max_plain
attribute [local go_sem] setCell_drewN alloc_drewN
set_option maxRecDepth 100000 in
set_option maxHeartbeats 6400000 in
theorem rEnc_ffz (ty sq ti so : Int) (Am : Option Addr) (mx : List Int) (cm : Nat) (Ae : Option Addr) (ce : Nat) (Ap : Option Addr) (pl : List Int) (cp : Nat) (pad : Int) (w : World) (ty0 : 0 ≤ ty) (ty1 : ty ≤ 127) (sq0 : 0 ≤ sq) (sq1 : sq ≤ 65535) (ti0 : 0 ≤ ti) (ti1 : ti ≤ 4294967295) (so0 : 0 ≤ so) (so1 : so ≤ 4294967295) (hpad : pad = 0) (lm : mx.length ≤ 15) (lp : pl.length ≤ 1500) (hmx : Within 0 4294967295 mx) (hpb : 0 ≤ pad ∧ pad ≤ 255) (Im : IntsAt w w.heap.size .u32 Am mx) (Ip : IntsAt w w.heap.size .u8 Ap pl) : Calls Try.prog 14 #[.agg #[.bool false, .int .u8 ty, .int .u16 sq, .int .u32 ti, .int .u32 so, .slice Am mx.length cm, .bool false, .int .u16 0, .slice Ae 0 ce, .slice Ap pl.length cp, .int .i64 pad]] w (EncR (Pk.bytes ⟨false, ty, sq, ti, so, mx, false, 0, [], pl, pad⟩, 0) w) := by
  have HM := Lib.hid hmx
  have IM := Lib.hid Im
  have IP := Lib.hid Ip
  clear hmx Im Ip
  obtain ⟨pad0, pad1⟩ := hpb
  have v1 : (mx.length : Int) ≤ 15 := by omega
  have v3 : (pl.length : Int) ≤ 1500 := by omega
  have hw1 : IntKind.u8.wrap (128 + (mx.length : Int)) = 128 + (mx.length : Int) := by rw [u8_wrap]; omega
  have hw2 : IntKind.u8.wrap (ty) = ty := by rw [u8_wrap]; omega
  have hpw : IntKind.u8.wrap pad = pad := by rw [u8_wrap]; omega
  obtain ⟨PZ, hPZ⟩ : ∃ n : Nat, n = (pad - 1).toNat := ⟨_, rfl⟩
  have hpz : PZ ≤ 254 := by omega
  have HPZ := Lib.hid hPZ
  have HPAD := Lib.hid hpad
  clear hPZ
  have hp1 : pad ≤ 0 := by omega
  clear hpad
  go_enter Try.func14, Try.ntmps14
  have hs1 : (w.alloc (.cells #[.bool false, .int .u8 ty, .int .u16 sq, .int .u32 ti, .int .u32 so, .slice Am mx.length cm, .bool false, .int .u16 0, .slice Ae 0 ce, .slice Ap pl.length cp, .int .i64 pad] 27)).heap.size = w.heap.size + 1 := size_alloc1 _ _
  have D : Hid (EState w ((w.alloc (.cells #[.bool false, .int .u8 ty, .int .u16 sq, .int .u32 ti, .int .u32 so, .slice Am mx.length cm, .bool false, .int .u16 0, .slice Ae 0 ce, .slice Ap pl.length cp, .int .i64 pad] 27)).alloc (.cells #[.int .u8 (128 + (mx.length : Int)), .int .u8 (ty)] 5)) [.bool false, .int .u8 ty, .int .u16 sq, .int .u32 ti, .int .u32 so, .slice Am mx.length cm, .bool false, .int .u16 0, .slice Ae 0 ce, .slice Ap pl.length cp, .int .i64 pad] (some ⟨w.heap.size + 1, 0, none⟩) 2 [128 + (mx.length : Int), ty]) := Lib.hid ⟨(Blk.new w 27 #[.bool false, .int .u8 ty, .int .u16 sq, .int .u32 ti, .int .u32 so, .slice Am mx.length cm, .bool false, .int .u16 0, .slice Ae 0 ce, .slice Ap pl.length cp, .int .i64 pad]).push _, Bel.push (Bel.push (Bel.refl w) _) _, by have h := Owns.lit (w.alloc (.cells #[.bool false, .int .u8 ty, .int .u16 sq, .int .u32 ti, .int .u32 so, .slice Am mx.length cm, .bool false, .int .u16 0, .slice Ae 0 ce, .slice Ap pl.length cp, .int .i64 pad] 27)) w.heap.size 5 (u8s [128 + (mx.length : Int), ty]) 2 (by omega) (by unfold maxLen; omega) rfl; rw [hs1] at h; exact h⟩
  clear hs1
  go_wp2_with fail
  obtain ⟨W0, hW0⟩ : ∃ W, W = (w.alloc (.cells #[.bool false, .int .u8 ty, .int .u16 sq, .int .u32 ti, .int .u32 so, .slice Am mx.length cm, .bool false, .int .u16 0, .slice Ae 0 ce, .slice Ap pl.length cp, .int .i64 pad] 27)).alloc (.cells #[.int .u8 (128 + (mx.length : Int)), .int .u8 (ty)] 5) := ⟨_, rfl⟩
  rw [← hW0] at D ⊢
  obtain ⟨o0, ho0⟩ : ∃ o : List Int, o = [128 + (mx.length : Int), ty] := ⟨_, rfl⟩
  have hq0 : (2 : Nat) = o0.length := by rw [ho0]; rfl
  rw [← ho0] at D
  have HE0 := Lib.hid ho0
  have hl0 : o0.length ≤ 10 := by rw [← hq0]; omega
  clear hW0 ho0
  refine (D.out.num (sq) 2 (by omega) (by omega) (by omega)).mono ?_
  rintro e w1 ⟨B1, b1', rfl, J1, D'⟩
  clear D
  have D := D'
  clear D'
  rw [show Value.slice (some ⟨w.heap.size + 1, 0, none⟩) 2 2 = Value.slice (some ⟨w.heap.size + 1, 0, none⟩) o0.length 2 by rw [← hq0]]
  clear hq0
  have c0 := D.out.hb.at 0 _ rfl
  have c1 := D.out.hb.at 1 _ rfl
  have c2 := D.out.hb.at 2 _ rfl
  have c3 := D.out.hb.at 3 _ rfl
  have c4 := D.out.hb.at 4 _ rfl
  have c5 := D.out.hb.at 5 _ rfl
  have c6 := D.out.hb.at 6 _ rfl
  have c7 := D.out.hb.at 7 _ rfl
  have c8 := D.out.hb.at 8 _ rfl
  have c9 := D.out.hb.at 9 _ rfl
  have c10 := D.out.hb.at 10 _ rfl
  have hws := D.out.hu.size
  go_upto_region 17 with (at_builtin; go_loud (refine wpList_append_ints rfl (.tmp 84) (.tmp 88) 25 rfl w.heap.size 5 1 (.int .u8 0) Try.underlying25 info_u8 rfl (some ⟨w.heap.size + 1, 0, none⟩) o0.length 2 (u8s o0) rfl D.out.ho _ .u8 B1 b1' (be 2 (sq)) (by rw [be_len]; rfl) J1.out (by rw [be_len]; unfold maxLen; omega) (by rw [be_len]; omega) hws (o0.length + 2) (by rw [be_len]) ?_); intro A1 c1' w101 hown hgr hat)
  clear c0 c1 c2 c3 c4 c5 c6 c7 c8 c9 c10 hws
  have D' := Lib.hid (D.out.grown (l := be 2 (sq)) (by rw [List.length_append, be_len]) rfl hown hgr)
  clear D hown hgr hat
  have D := D'
  clear D'
  obtain ⟨o1, hO1⟩ : ∃ o, o = o0 ++ be 2 (sq) := ⟨_, rfl⟩
  rw [← hO1] at D
  have HE1 := Lib.hid hO1
  have hq1 : o0.length + 2 = o1.length := by rw [hO1, List.length_append, be_len]
  have hl1 : o1.length ≤ o0.length + 2 := by omega
  rw [hq1]
  clear hq1 hO1
  have c0 := D.out.hb.at 0 _ rfl
  have c1 := D.out.hb.at 1 _ rfl
  have c2 := D.out.hb.at 2 _ rfl
  have c3 := D.out.hb.at 3 _ rfl
  have c4 := D.out.hb.at 4 _ rfl
  have c5 := D.out.hb.at 5 _ rfl
  have c6 := D.out.hb.at 6 _ rfl
  have c7 := D.out.hb.at 7 _ rfl
  have c8 := D.out.hb.at 8 _ rfl
  have c9 := D.out.hb.at 9 _ rfl
  have c10 := D.out.hb.at 10 _ rfl
  go_wp2_with fail
  clear c0 c1 c2 c3 c4 c5 c6 c7 c8 c9 c10
  refine (D.out.num (ti) 4 (by omega) (by omega) (by omega)).mono ?_
  rintro e w2 ⟨B2, b2', rfl, J2, D'⟩
  clear D
  have D := D'
  clear D'
  have c0 := D.out.hb.at 0 _ rfl
  have c1 := D.out.hb.at 1 _ rfl
  have c2 := D.out.hb.at 2 _ rfl
  have c3 := D.out.hb.at 3 _ rfl
  have c4 := D.out.hb.at 4 _ rfl
  have c5 := D.out.hb.at 5 _ rfl
  have c6 := D.out.hb.at 6 _ rfl
  have c7 := D.out.hb.at 7 _ rfl
  have c8 := D.out.hb.at 8 _ rfl
  have c9 := D.out.hb.at 9 _ rfl
  have c10 := D.out.hb.at 10 _ rfl
  have hws := D.out.hu.size
  go_upto_region 18 with (at_builtin; go_loud (refine wpList_append_ints rfl (.tmp 90) (.tmp 94) 25 rfl w.heap.size 5 1 (.int .u8 0) Try.underlying25 info_u8 rfl A1 o1.length c1' (u8s o1) rfl D.out.ho _ .u8 B2 b2' (be 4 (ti)) (by rw [be_len]; rfl) J2.out (by rw [be_len]; unfold maxLen; omega) (by rw [be_len]; omega) hws (o1.length + 4) (by rw [be_len]) ?_); intro A2 c2' w102 hown hgr hat)
  clear c0 c1 c2 c3 c4 c5 c6 c7 c8 c9 c10 hws
  have D' := Lib.hid (D.out.grown (l := be 4 (ti)) (by rw [List.length_append, be_len]) rfl hown hgr)
  clear D hown hgr hat
  have D := D'
  clear D'
  obtain ⟨o2, hO2⟩ : ∃ o, o = o1 ++ be 4 (ti) := ⟨_, rfl⟩
  rw [← hO2] at D
  have HE2 := Lib.hid hO2
  have hq2 : o1.length + 4 = o2.length := by rw [hO2, List.length_append, be_len]
  have hl2 : o2.length ≤ o1.length + 4 := by omega
  rw [hq2]
  clear hq2 hO2
  have c0 := D.out.hb.at 0 _ rfl
  have c1 := D.out.hb.at 1 _ rfl
  have c2 := D.out.hb.at 2 _ rfl
  have c3 := D.out.hb.at 3 _ rfl
  have c4 := D.out.hb.at 4 _ rfl
  have c5 := D.out.hb.at 5 _ rfl
  have c6 := D.out.hb.at 6 _ rfl
  have c7 := D.out.hb.at 7 _ rfl
  have c8 := D.out.hb.at 8 _ rfl
  have c9 := D.out.hb.at 9 _ rfl
  have c10 := D.out.hb.at 10 _ rfl
  go_wp2_with fail
  clear c0 c1 c2 c3 c4 c5 c6 c7 c8 c9 c10
  refine (D.out.num (so) 4 (by omega) (by omega) (by omega)).mono ?_
  rintro e w3 ⟨B3, b3', rfl, J3, D'⟩
  clear D
  have D := D'
  clear D'
  have c0 := D.out.hb.at 0 _ rfl
  have c1 := D.out.hb.at 1 _ rfl
  have c2 := D.out.hb.at 2 _ rfl
  have c3 := D.out.hb.at 3 _ rfl
  have c4 := D.out.hb.at 4 _ rfl
  have c5 := D.out.hb.at 5 _ rfl
  have c6 := D.out.hb.at 6 _ rfl
  have c7 := D.out.hb.at 7 _ rfl
  have c8 := D.out.hb.at 8 _ rfl
  have c9 := D.out.hb.at 9 _ rfl
  have c10 := D.out.hb.at 10 _ rfl
  have hws := D.out.hu.size
  go_upto_region 19 with (at_builtin; go_loud (refine wpList_append_ints rfl (.tmp 96) (.tmp 100) 25 rfl w.heap.size 5 1 (.int .u8 0) Try.underlying25 info_u8 rfl A2 o2.length c2' (u8s o2) rfl D.out.ho _ .u8 B3 b3' (be 4 (so)) (by rw [be_len]; rfl) J3.out (by rw [be_len]; unfold maxLen; omega) (by rw [be_len]; omega) hws (o2.length + 4) (by rw [be_len]) ?_); intro A3 c3' w103 hown hgr hat)
  clear c0 c1 c2 c3 c4 c5 c6 c7 c8 c9 c10 hws
  have D' := Lib.hid (D.out.grown (l := be 4 (so)) (by rw [List.length_append, be_len]) rfl hown hgr)
  clear D hown hgr hat
  have D := D'
  clear D'
  obtain ⟨o3, hO3⟩ : ∃ o, o = o2 ++ be 4 (so) := ⟨_, rfl⟩
  rw [← hO3] at D
  have HE3 := Lib.hid hO3
  have hq3 : o2.length + 4 = o3.length := by rw [hO3, List.length_append, be_len]
  have hl3 : o3.length ≤ o2.length + 4 := by omega
  rw [hq3]
  clear hq3 hO3
  have c0 := D.out.hb.at 0 _ rfl
  have c1 := D.out.hb.at 1 _ rfl
  have c2 := D.out.hb.at 2 _ rfl
  have c3 := D.out.hb.at 3 _ rfl
  have c4 := D.out.hb.at 4 _ rfl
  have c5 := D.out.hb.at 5 _ rfl
  have c6 := D.out.hb.at 6 _ rfl
  have c7 := D.out.hb.at 7 _ rfl
  have c8 := D.out.hb.at 8 _ rfl
  have c9 := D.out.hb.at 9 _ rfl
  have c10 := D.out.hb.at 10 _ rfl
  go_wp2_with fail
  clear c0 c1 c2 c3 c4 c5 c6 c7 c8 c9 c10
  go_loopg [6, 7] mx.length (fun gk s6 s7 wr => ∃ (k : Nat) (A' : Option Addr) (c' : Nat) (out : List Int), gk + k = mx.length ∧ s7 = .int .i64 k ∧ s6 = .slice A' out.length c' ∧ Hid (out = o3 ++ (mx.take k).flatMap (be 4)) ∧ Hid (out.length ≤ 20 + 4 * k) ∧ Hid (EState w wr [.bool false, .int .u8 ty, .int .u16 sq, .int .u32 ti, .int .u32 so, .slice Am mx.length cm, .bool false, .int .u16 0, .slice Ae 0 ce, .slice Ap pl.length cp, .int .i64 pad] A' c' out))
  case atStart => exact ⟨0, A3, c3', o3, rfl, rfl, rfl, Lib.hid (by simp), Lib.hid (by omega), D⟩
  case round =>
    clear D
    obtain ⟨k, A', c', out, hg, rfl, rfl, HO, HL, D⟩ := hrel
    have hln := HL.out
    by_cases hlt : k < mx.length
    · have hi0 : (0 : Int) ≤ (k : Int) := by omega
      have hi1 : (k : Int) < (mx.length : Int) := by omega
      obtain ⟨b, off, rfl, hbB, hcell⟩ := IM.out (by omega)
      have q1 := (D.out.hu.cell (p := ⟨b, off + k, none⟩) hbB).trans (hcell k hlt)
      obtain ⟨z0, z1⟩ := HM.out.at hlt
      have hst := flat4_take mx k hlt
      generalize mx.getD k 0 = z at *
      have HST := Lib.hid hst
      clear hst hcell
      have c0 := D.out.hb.at 0 _ rfl
      have c1 := D.out.hb.at 1 _ rfl
      have c2 := D.out.hb.at 2 _ rfl
      have c3 := D.out.hb.at 3 _ rfl
      have c4 := D.out.hb.at 4 _ rfl
      have c5 := D.out.hb.at 5 _ rfl
      have c6 := D.out.hb.at 6 _ rfl
      have c7 := D.out.hb.at 7 _ rfl
      have c8 := D.out.hb.at 8 _ rfl
      have c9 := D.out.hb.at 9 _ rfl
      have c10 := D.out.hb.at 10 _ rfl
      go_wp2_with fail
      clear c0 c1 c2 c3 c4 c5 c6 c7 c8 c9 c10
      refine (D.out.num z 4 (by omega) (by omega) (by omega)).mono ?_
      rintro e w9 ⟨B9, b9', rfl, J9, D'⟩
      clear D
      have D := D'
      clear D'
      have c0 := D.out.hb.at 0 _ rfl
      have c1 := D.out.hb.at 1 _ rfl
      have c2 := D.out.hb.at 2 _ rfl
      have c3 := D.out.hb.at 3 _ rfl
      have c4 := D.out.hb.at 4 _ rfl
      have c5 := D.out.hb.at 5 _ rfl
      have c6 := D.out.hb.at 6 _ rfl
      have c7 := D.out.hb.at 7 _ rfl
      have c8 := D.out.hb.at 8 _ rfl
      have c9 := D.out.hb.at 9 _ rfl
      have c10 := D.out.hb.at 10 _ rfl
      have hws := D.out.hu.size
      go_wp2_with (at_builtin
                   go_loud (refine wpList_append_ints rfl (.tmp 109) (.tmp 116) 25 rfl w.heap.size 5 1 (.int .u8 0) Try.underlying25 info_u8 rfl A' out.length c' (u8s out) rfl D.out.ho _ .u8 B9 b9' (be 4 z) (by rw [be_len]; rfl) J9.out (by rw [be_len]; unfold maxLen; omega) (by rw [be_len]; omega) hws (out.length + 4) (by rw [be_len]) ?_)
                   intro A8 c8' w8 hown hgr hat)
      have D' := Lib.hid (D.out.grown (l := be 4 z) (by rw [List.length_append, be_len]) rfl hown hgr)
      go_roundg (gk - 1)
      case measure => omega
      case rel => exact ⟨k + 1, A8, c8', out ++ be 4 z, by omega, by go_num, by first | rfl | rw [List.length_append, be_len], Lib.hid (by rw [HST.out, HO.out, List.append_assoc]), Lib.hid (by rw [List.length_append, be_len]; omega), D'⟩
    · obtain rfl : k = mx.length := by omega
      have hi1 : (mx.length : Int) ≤ (mx.length : Int) := Int.le_refl _
      have hx : out = o3 ++ mx.flatMap (be 4) := by rw [HO.out, List.take_length]
      have HX := Lib.hid hx
      clear hx HO HL
      have c0 := D.out.hb.at 0 _ rfl
      have c1 := D.out.hb.at 1 _ rfl
      have c2 := D.out.hb.at 2 _ rfl
      have c3 := D.out.hb.at 3 _ rfl
      have c4 := D.out.hb.at 4 _ rfl
      have c5 := D.out.hb.at 5 _ rfl
      have c6 := D.out.hb.at 6 _ rfl
      have c7 := D.out.hb.at 7 _ rfl
      have c8 := D.out.hb.at 8 _ rfl
      have c9 := D.out.hb.at 9 _ rfl
      have c10 := D.out.hb.at 10 _ rfl
      have hws := D.out.hu.size
      go_upto_region 28 with (at_builtin; go_loud (refine wpList_append_ints rfl (.tmp 137) (.tmp 139) 25 rfl w.heap.size 5 1 (.int .u8 0) Try.underlying25 info_u8 rfl A' out.length c' (u8s out) rfl D.out.ho _ .u8 Ap cp pl rfl (IP.out.below D.out.hu) (by unfold maxLen; omega) (by omega) hws (out.length + pl.length) rfl ?_); intro A4 c4' w104 hown hgr hat)
      clear c0 c1 c2 c3 c4 c5 c6 c7 c8 c9 c10 hws
      have D' := Lib.hid (D.out.grown (l := pl) (by rw [List.length_append]) rfl hown hgr)
      clear D hown hgr hat
      have D := D'
      clear D'
      obtain ⟨o4, hO4⟩ : ∃ o, o = out ++ pl := ⟨_, rfl⟩
      rw [← hO4] at D
      have HE4 := Lib.hid hO4
      have hq4 : out.length + pl.length = o4.length := by rw [hO4, List.length_append]
      have hl4 : o4.length ≤ out.length + pl.length := by omega
      rw [hq4]
      clear hq4 hO4
      have c0 := D.out.hb.at 0 _ rfl
      have c1 := D.out.hb.at 1 _ rfl
      have c2 := D.out.hb.at 2 _ rfl
      have c3 := D.out.hb.at 3 _ rfl
      have c4 := D.out.hb.at 4 _ rfl
      have c5 := D.out.hb.at 5 _ rfl
      have c6 := D.out.hb.at 6 _ rfl
      have c7 := D.out.hb.at 7 _ rfl
      have c8 := D.out.hb.at 8 _ rfl
      have c9 := D.out.hb.at 9 _ rfl
      have c10 := D.out.hb.at 10 _ rfl
      go_wp2_with fail
      clear c0 c1 c2 c3 c4 c5 c6 c7 c8 c9 c10
      obtain ⟨W1, hW1⟩ : ∃ W, W = w104 := ⟨_, rfl⟩
      have hlq : o4.length ≤ 4000 := by omega
      have HQ := Lib.hid hlq
      go_loopg [6, 8] PZ (fun gk s6 s8 wr => ∃ (j : Nat) (A' : Option Addr) (c' : Nat) (out : List Int), gk + j = PZ ∧ s8 = .int .i64 ((j : Int) + 1) ∧ s6 = .slice A' out.length c' ∧ Hid (out = o4 ++ List.replicate j (0 : Int)) ∧ Hid (out.length ≤ 4000 + j) ∧ Hid (EState w wr [.bool false, .int .u8 ty, .int .u16 sq, .int .u32 ti, .int .u32 so, .slice Am mx.length cm, .bool false, .int .u16 0, .slice Ae 0 ce, .slice Ap pl.length cp, .int .i64 pad] A' c' out))
      case atStart => exact ⟨0, A4, c4', o4, rfl, rfl, rfl, Lib.hid (by simp), Lib.hid (by omega), D⟩
      case round =>
        clear D
        obtain ⟨j, Aj, cj', oj, hgj, rfl, rfl, HOj, HLj, D⟩ := hrel
        have hlj := HLj.out
        by_cases hltj : j < PZ
        · exact absurd hltj (by have := HPZ.out; omega)
        · obtain rfl : j = PZ := by omega
          have hj0 : pad ≤ (j : Int) + 1 := by have := HPZ.out; omega
          have HXj := HOj
          clear HOj HLj
          have hfin : oj = Pk.bytes ⟨false, ty, sq, ti, so, mx, false, 0, [], pl, pad⟩ := by
            unfold Pk.bytes Pk.lead Pk.tail
            rw [HXj.out, HE4.out, HX.out, HE3.out, HE2.out, HE1.out, HE0.out]
            have e1 : j = 0 := by have := HPZ.out; have := HPAD.out; omega
            rw [e1, HPAD.out]
            simp [List.append_assoc]
          have HFIN := Lib.hid hfin
          clear hfin
          have c0 := D.out.hb.at 0 _ rfl
          have c1 := D.out.hb.at 1 _ rfl
          have c2 := D.out.hb.at 2 _ rfl
          have c3 := D.out.hb.at 3 _ rfl
          have c4 := D.out.hb.at 4 _ rfl
          have c5 := D.out.hb.at 5 _ rfl
          have c6 := D.out.hb.at 6 _ rfl
          have c7 := D.out.hb.at 7 _ rfl
          have c8 := D.out.hb.at 8 _ rfl
          have c9 := D.out.hb.at 9 _ rfl
          have c10 := D.out.hb.at 10 _ rfl
          go_wp2_with fail
          go_ret2
          rw [← HFIN.out]
          exact ⟨Aj, cj', rfl, IntsNew.of_own D.out.ho (Nat.le_refl _), D.out.hu⟩
set_option maxRecDepth 100000 in
set_option maxHeartbeats 6400000 in
theorem rEnc_ffp (ty sq ti so : Int) (Am : Option Addr) (mx : List Int) (cm : Nat) (Ae : Option Addr) (ce : Nat) (Ap : Option Addr) (pl : List Int) (cp : Nat) (pad : Int) (w : World) (ty0 : 0 ≤ ty) (ty1 : ty ≤ 127) (sq0 : 0 ≤ sq) (sq1 : sq ≤ 65535) (ti0 : 0 ≤ ti) (ti1 : ti ≤ 4294967295) (so0 : 0 ≤ so) (so1 : so ≤ 4294967295) (hpad : 1 ≤ pad) (lm : mx.length ≤ 15) (lp : pl.length ≤ 1500) (hmx : Within 0 4294967295 mx) (hpb : 0 ≤ pad ∧ pad ≤ 255) (Im : IntsAt w w.heap.size .u32 Am mx) (Ip : IntsAt w w.heap.size .u8 Ap pl) : Calls Try.prog 14 #[.agg #[.bool false, .int .u8 ty, .int .u16 sq, .int .u32 ti, .int .u32 so, .slice Am mx.length cm, .bool false, .int .u16 0, .slice Ae 0 ce, .slice Ap pl.length cp, .int .i64 pad]] w (EncR (Pk.bytes ⟨false, ty, sq, ti, so, mx, false, 0, [], pl, pad⟩, 0) w) := by
  have HM := Lib.hid hmx
  have IM := Lib.hid Im
  have IP := Lib.hid Ip
  clear hmx Im Ip
  obtain ⟨pad0, pad1⟩ := hpb
  have v1 : (mx.length : Int) ≤ 15 := by omega
  have v3 : (pl.length : Int) ≤ 1500 := by omega
  have hw1 : IntKind.u8.wrap (128 + (mx.length : Int) + 32) = 128 + (mx.length : Int) + 32 := by rw [u8_wrap]; omega
  have hw2 : IntKind.u8.wrap (ty) = ty := by rw [u8_wrap]; omega
  have hpw : IntKind.u8.wrap pad = pad := by rw [u8_wrap]; omega
  obtain ⟨PZ, hPZ⟩ : ∃ n : Nat, n = (pad - 1).toNat := ⟨_, rfl⟩
  have hpz : PZ ≤ 254 := by omega
  have HPZ := Lib.hid hPZ
  have HPAD := Lib.hid hpad
  clear hPZ
  have hp1 : 0 < pad := by omega
  go_enter Try.func14, Try.ntmps14
  have hs1 : (w.alloc (.cells #[.bool false, .int .u8 ty, .int .u16 sq, .int .u32 ti, .int .u32 so, .slice Am mx.length cm, .bool false, .int .u16 0, .slice Ae 0 ce, .slice Ap pl.length cp, .int .i64 pad] 27)).heap.size = w.heap.size + 1 := size_alloc1 _ _
  have D : Hid (EState w ((w.alloc (.cells #[.bool false, .int .u8 ty, .int .u16 sq, .int .u32 ti, .int .u32 so, .slice Am mx.length cm, .bool false, .int .u16 0, .slice Ae 0 ce, .slice Ap pl.length cp, .int .i64 pad] 27)).alloc (.cells #[.int .u8 (128 + (mx.length : Int) + 32), .int .u8 (ty)] 5)) [.bool false, .int .u8 ty, .int .u16 sq, .int .u32 ti, .int .u32 so, .slice Am mx.length cm, .bool false, .int .u16 0, .slice Ae 0 ce, .slice Ap pl.length cp, .int .i64 pad] (some ⟨w.heap.size + 1, 0, none⟩) 2 [128 + (mx.length : Int) + 32, ty]) := Lib.hid ⟨(Blk.new w 27 #[.bool false, .int .u8 ty, .int .u16 sq, .int .u32 ti, .int .u32 so, .slice Am mx.length cm, .bool false, .int .u16 0, .slice Ae 0 ce, .slice Ap pl.length cp, .int .i64 pad]).push _, Bel.push (Bel.push (Bel.refl w) _) _, by have h := Owns.lit (w.alloc (.cells #[.bool false, .int .u8 ty, .int .u16 sq, .int .u32 ti, .int .u32 so, .slice Am mx.length cm, .bool false, .int .u16 0, .slice Ae 0 ce, .slice Ap pl.length cp, .int .i64 pad] 27)) w.heap.size 5 (u8s [128 + (mx.length : Int) + 32, ty]) 2 (by omega) (by unfold maxLen; omega) rfl; rw [hs1] at h; exact h⟩
  clear hs1
  go_wp2_with fail
  obtain ⟨W0, hW0⟩ : ∃ W, W = (w.alloc (.cells #[.bool false, .int .u8 ty, .int .u16 sq, .int .u32 ti, .int .u32 so, .slice Am mx.length cm, .bool false, .int .u16 0, .slice Ae 0 ce, .slice Ap pl.length cp, .int .i64 pad] 27)).alloc (.cells #[.int .u8 (128 + (mx.length : Int) + 32), .int .u8 (ty)] 5) := ⟨_, rfl⟩
  rw [← hW0] at D ⊢
  obtain ⟨o0, ho0⟩ : ∃ o : List Int, o = [128 + (mx.length : Int) + 32, ty] := ⟨_, rfl⟩
  have hq0 : (2 : Nat) = o0.length := by rw [ho0]; rfl
  rw [← ho0] at D
  have HE0 := Lib.hid ho0
  have hl0 : o0.length ≤ 10 := by rw [← hq0]; omega
  clear hW0 ho0
  refine (D.out.num (sq) 2 (by omega) (by omega) (by omega)).mono ?_
  rintro e w1 ⟨B1, b1', rfl, J1, D'⟩
  clear D
  have D := D'
  clear D'
  rw [show Value.slice (some ⟨w.heap.size + 1, 0, none⟩) 2 2 = Value.slice (some ⟨w.heap.size + 1, 0, none⟩) o0.length 2 by rw [← hq0]]
  clear hq0
  have c0 := D.out.hb.at 0 _ rfl
  have c1 := D.out.hb.at 1 _ rfl
  have c2 := D.out.hb.at 2 _ rfl
  have c3 := D.out.hb.at 3 _ rfl
  have c4 := D.out.hb.at 4 _ rfl
  have c5 := D.out.hb.at 5 _ rfl
  have c6 := D.out.hb.at 6 _ rfl
  have c7 := D.out.hb.at 7 _ rfl
  have c8 := D.out.hb.at 8 _ rfl
  have c9 := D.out.hb.at 9 _ rfl
  have c10 := D.out.hb.at 10 _ rfl
  have hws := D.out.hu.size
  go_upto_region 17 with (at_builtin; go_loud (refine wpList_append_ints rfl (.tmp 84) (.tmp 88) 25 rfl w.heap.size 5 1 (.int .u8 0) Try.underlying25 info_u8 rfl (some ⟨w.heap.size + 1, 0, none⟩) o0.length 2 (u8s o0) rfl D.out.ho _ .u8 B1 b1' (be 2 (sq)) (by rw [be_len]; rfl) J1.out (by rw [be_len]; unfold maxLen; omega) (by rw [be_len]; omega) hws (o0.length + 2) (by rw [be_len]) ?_); intro A1 c1' w101 hown hgr hat)
  clear c0 c1 c2 c3 c4 c5 c6 c7 c8 c9 c10 hws
  have D' := Lib.hid (D.out.grown (l := be 2 (sq)) (by rw [List.length_append, be_len]) rfl hown hgr)
  clear D hown hgr hat
  have D := D'
  clear D'
  obtain ⟨o1, hO1⟩ : ∃ o, o = o0 ++ be 2 (sq) := ⟨_, rfl⟩
  rw [← hO1] at D
  have HE1 := Lib.hid hO1
  have hq1 : o0.length + 2 = o1.length := by rw [hO1, List.length_append, be_len]
  have hl1 : o1.length ≤ o0.length + 2 := by omega
  rw [hq1]
  clear hq1 hO1
  have c0 := D.out.hb.at 0 _ rfl
  have c1 := D.out.hb.at 1 _ rfl
  have c2 := D.out.hb.at 2 _ rfl
  have c3 := D.out.hb.at 3 _ rfl
  have c4 := D.out.hb.at 4 _ rfl
  have c5 := D.out.hb.at 5 _ rfl
  have c6 := D.out.hb.at 6 _ rfl
  have c7 := D.out.hb.at 7 _ rfl
  have c8 := D.out.hb.at 8 _ rfl
  have c9 := D.out.hb.at 9 _ rfl
  have c10 := D.out.hb.at 10 _ rfl
  go_wp2_with fail
  clear c0 c1 c2 c3 c4 c5 c6 c7 c8 c9 c10
  refine (D.out.num (ti) 4 (by omega) (by omega) (by omega)).mono ?_
  rintro e w2 ⟨B2, b2', rfl, J2, D'⟩
  clear D
  have D := D'
  clear D'
  have c0 := D.out.hb.at 0 _ rfl
  have c1 := D.out.hb.at 1 _ rfl
  have c2 := D.out.hb.at 2 _ rfl
  have c3 := D.out.hb.at 3 _ rfl
  have c4 := D.out.hb.at 4 _ rfl
  have c5 := D.out.hb.at 5 _ rfl
  have c6 := D.out.hb.at 6 _ rfl
  have c7 := D.out.hb.at 7 _ rfl
  have c8 := D.out.hb.at 8 _ rfl
  have c9 := D.out.hb.at 9 _ rfl
  have c10 := D.out.hb.at 10 _ rfl
  have hws := D.out.hu.size
  go_upto_region 18 with (at_builtin; go_loud (refine wpList_append_ints rfl (.tmp 90) (.tmp 94) 25 rfl w.heap.size 5 1 (.int .u8 0) Try.underlying25 info_u8 rfl A1 o1.length c1' (u8s o1) rfl D.out.ho _ .u8 B2 b2' (be 4 (ti)) (by rw [be_len]; rfl) J2.out (by rw [be_len]; unfold maxLen; omega) (by rw [be_len]; omega) hws (o1.length + 4) (by rw [be_len]) ?_); intro A2 c2' w102 hown hgr hat)
  clear c0 c1 c2 c3 c4 c5 c6 c7 c8 c9 c10 hws
  have D' := Lib.hid (D.out.grown (l := be 4 (ti)) (by rw [List.length_append, be_len]) rfl hown hgr)
  clear D hown hgr hat
  have D := D'
  clear D'
  obtain ⟨o2, hO2⟩ : ∃ o, o = o1 ++ be 4 (ti) := ⟨_, rfl⟩
  rw [← hO2] at D
  have HE2 := Lib.hid hO2
  have hq2 : o1.length + 4 = o2.length := by rw [hO2, List.length_append, be_len]
  have hl2 : o2.length ≤ o1.length + 4 := by omega
  rw [hq2]
  clear hq2 hO2
  have c0 := D.out.hb.at 0 _ rfl
  have c1 := D.out.hb.at 1 _ rfl
  have c2 := D.out.hb.at 2 _ rfl
  have c3 := D.out.hb.at 3 _ rfl
  have c4 := D.out.hb.at 4 _ rfl
  have c5 := D.out.hb.at 5 _ rfl
  have c6 := D.out.hb.at 6 _ rfl
  have c7 := D.out.hb.at 7 _ rfl
  have c8 := D.out.hb.at 8 _ rfl
  have c9 := D.out.hb.at 9 _ rfl
  have c10 := D.out.hb.at 10 _ rfl
  go_wp2_with fail
  clear c0 c1 c2 c3 c4 c5 c6 c7 c8 c9 c10
  refine (D.out.num (so) 4 (by omega) (by omega) (by omega)).mono ?_
  rintro e w3 ⟨B3, b3', rfl, J3, D'⟩
  clear D
  have D := D'
  clear D'
  have c0 := D.out.hb.at 0 _ rfl
  have c1 := D.out.hb.at 1 _ rfl
  have c2 := D.out.hb.at 2 _ rfl
  have c3 := D.out.hb.at 3 _ rfl
  have c4 := D.out.hb.at 4 _ rfl
  have c5 := D.out.hb.at 5 _ rfl
  have c6 := D.out.hb.at 6 _ rfl
  have c7 := D.out.hb.at 7 _ rfl
  have c8 := D.out.hb.at 8 _ rfl
  have c9 := D.out.hb.at 9 _ rfl
  have c10 := D.out.hb.at 10 _ rfl
  have hws := D.out.hu.size
  go_upto_region 19 with (at_builtin; go_loud (refine wpList_append_ints rfl (.tmp 96) (.tmp 100) 25 rfl w.heap.size 5 1 (.int .u8 0) Try.underlying25 info_u8 rfl A2 o2.length c2' (u8s o2) rfl D.out.ho _ .u8 B3 b3' (be 4 (so)) (by rw [be_len]; rfl) J3.out (by rw [be_len]; unfold maxLen; omega) (by rw [be_len]; omega) hws (o2.length + 4) (by rw [be_len]) ?_); intro A3 c3' w103 hown hgr hat)
  clear c0 c1 c2 c3 c4 c5 c6 c7 c8 c9 c10 hws
  have D' := Lib.hid (D.out.grown (l := be 4 (so)) (by rw [List.length_append, be_len]) rfl hown hgr)
  clear D hown hgr hat
  have D := D'
  clear D'
  obtain ⟨o3, hO3⟩ : ∃ o, o = o2 ++ be 4 (so) := ⟨_, rfl⟩
  rw [← hO3] at D
  have HE3 := Lib.hid hO3
  have hq3 : o2.length + 4 = o3.length := by rw [hO3, List.length_append, be_len]
  have hl3 : o3.length ≤ o2.length + 4 := by omega
  rw [hq3]
  clear hq3 hO3
  have c0 := D.out.hb.at 0 _ rfl
  have c1 := D.out.hb.at 1 _ rfl
  have c2 := D.out.hb.at 2 _ rfl
  have c3 := D.out.hb.at 3 _ rfl
  have c4 := D.out.hb.at 4 _ rfl
  have c5 := D.out.hb.at 5 _ rfl
  have c6 := D.out.hb.at 6 _ rfl
  have c7 := D.out.hb.at 7 _ rfl
  have c8 := D.out.hb.at 8 _ rfl
  have c9 := D.out.hb.at 9 _ rfl
  have c10 := D.out.hb.at 10 _ rfl
  go_wp2_with fail
  clear c0 c1 c2 c3 c4 c5 c6 c7 c8 c9 c10
  go_loopg [6, 7] mx.length (fun gk s6 s7 wr => ∃ (k : Nat) (A' : Option Addr) (c' : Nat) (out : List Int), gk + k = mx.length ∧ s7 = .int .i64 k ∧ s6 = .slice A' out.length c' ∧ Hid (out = o3 ++ (mx.take k).flatMap (be 4)) ∧ Hid (out.length ≤ 20 + 4 * k) ∧ Hid (EState w wr [.bool false, .int .u8 ty, .int .u16 sq, .int .u32 ti, .int .u32 so, .slice Am mx.length cm, .bool false, .int .u16 0, .slice Ae 0 ce, .slice Ap pl.length cp, .int .i64 pad] A' c' out))
  case atStart => exact ⟨0, A3, c3', o3, rfl, rfl, rfl, Lib.hid (by simp), Lib.hid (by omega), D⟩
  case round =>
    clear D
    obtain ⟨k, A', c', out, hg, rfl, rfl, HO, HL, D⟩ := hrel
    have hln := HL.out
    by_cases hlt : k < mx.length
    · have hi0 : (0 : Int) ≤ (k : Int) := by omega
      have hi1 : (k : Int) < (mx.length : Int) := by omega
      obtain ⟨b, off, rfl, hbB, hcell⟩ := IM.out (by omega)
      have q1 := (D.out.hu.cell (p := ⟨b, off + k, none⟩) hbB).trans (hcell k hlt)
      obtain ⟨z0, z1⟩ := HM.out.at hlt
      have hst := flat4_take mx k hlt
      generalize mx.getD k 0 = z at *
      have HST := Lib.hid hst
      clear hst hcell
      have c0 := D.out.hb.at 0 _ rfl
      have c1 := D.out.hb.at 1 _ rfl
      have c2 := D.out.hb.at 2 _ rfl
      have c3 := D.out.hb.at 3 _ rfl
      have c4 := D.out.hb.at 4 _ rfl
      have c5 := D.out.hb.at 5 _ rfl
      have c6 := D.out.hb.at 6 _ rfl
      have c7 := D.out.hb.at 7 _ rfl
      have c8 := D.out.hb.at 8 _ rfl
      have c9 := D.out.hb.at 9 _ rfl
      have c10 := D.out.hb.at 10 _ rfl
      go_wp2_with fail
      clear c0 c1 c2 c3 c4 c5 c6 c7 c8 c9 c10
      refine (D.out.num z 4 (by omega) (by omega) (by omega)).mono ?_
      rintro e w9 ⟨B9, b9', rfl, J9, D'⟩
      clear D
      have D := D'
      clear D'
      have c0 := D.out.hb.at 0 _ rfl
      have c1 := D.out.hb.at 1 _ rfl
      have c2 := D.out.hb.at 2 _ rfl
      have c3 := D.out.hb.at 3 _ rfl
      have c4 := D.out.hb.at 4 _ rfl
      have c5 := D.out.hb.at 5 _ rfl
      have c6 := D.out.hb.at 6 _ rfl
      have c7 := D.out.hb.at 7 _ rfl
      have c8 := D.out.hb.at 8 _ rfl
      have c9 := D.out.hb.at 9 _ rfl
      have c10 := D.out.hb.at 10 _ rfl
      have hws := D.out.hu.size
      go_wp2_with (at_builtin
                   go_loud (refine wpList_append_ints rfl (.tmp 109) (.tmp 116) 25 rfl w.heap.size 5 1 (.int .u8 0) Try.underlying25 info_u8 rfl A' out.length c' (u8s out) rfl D.out.ho _ .u8 B9 b9' (be 4 z) (by rw [be_len]; rfl) J9.out (by rw [be_len]; unfold maxLen; omega) (by rw [be_len]; omega) hws (out.length + 4) (by rw [be_len]) ?_)
                   intro A8 c8' w8 hown hgr hat)
      have D' := Lib.hid (D.out.grown (l := be 4 z) (by rw [List.length_append, be_len]) rfl hown hgr)
      go_roundg (gk - 1)
      case measure => omega
      case rel => exact ⟨k + 1, A8, c8', out ++ be 4 z, by omega, by go_num, by first | rfl | rw [List.length_append, be_len], Lib.hid (by rw [HST.out, HO.out, List.append_assoc]), Lib.hid (by rw [List.length_append, be_len]; omega), D'⟩
    · obtain rfl : k = mx.length := by omega
      have hi1 : (mx.length : Int) ≤ (mx.length : Int) := Int.le_refl _
      have hx : out = o3 ++ mx.flatMap (be 4) := by rw [HO.out, List.take_length]
      have HX := Lib.hid hx
      clear hx HO HL
      have c0 := D.out.hb.at 0 _ rfl
      have c1 := D.out.hb.at 1 _ rfl
      have c2 := D.out.hb.at 2 _ rfl
      have c3 := D.out.hb.at 3 _ rfl
      have c4 := D.out.hb.at 4 _ rfl
      have c5 := D.out.hb.at 5 _ rfl
      have c6 := D.out.hb.at 6 _ rfl
      have c7 := D.out.hb.at 7 _ rfl
      have c8 := D.out.hb.at 8 _ rfl
      have c9 := D.out.hb.at 9 _ rfl
      have c10 := D.out.hb.at 10 _ rfl
      have hws := D.out.hu.size
      go_upto_region 28 with (at_builtin; go_loud (refine wpList_append_ints rfl (.tmp 137) (.tmp 139) 25 rfl w.heap.size 5 1 (.int .u8 0) Try.underlying25 info_u8 rfl A' out.length c' (u8s out) rfl D.out.ho _ .u8 Ap cp pl rfl (IP.out.below D.out.hu) (by unfold maxLen; omega) (by omega) hws (out.length + pl.length) rfl ?_); intro A4 c4' w104 hown hgr hat)
      clear c0 c1 c2 c3 c4 c5 c6 c7 c8 c9 c10 hws
      have D' := Lib.hid (D.out.grown (l := pl) (by rw [List.length_append]) rfl hown hgr)
      clear D hown hgr hat
      have D := D'
      clear D'
      obtain ⟨o4, hO4⟩ : ∃ o, o = out ++ pl := ⟨_, rfl⟩
      rw [← hO4] at D
      have HE4 := Lib.hid hO4
      have hq4 : out.length + pl.length = o4.length := by rw [hO4, List.length_append]
      have hl4 : o4.length ≤ out.length + pl.length := by omega
      rw [hq4]
      clear hq4 hO4
      have c0 := D.out.hb.at 0 _ rfl
      have c1 := D.out.hb.at 1 _ rfl
      have c2 := D.out.hb.at 2 _ rfl
      have c3 := D.out.hb.at 3 _ rfl
      have c4 := D.out.hb.at 4 _ rfl
      have c5 := D.out.hb.at 5 _ rfl
      have c6 := D.out.hb.at 6 _ rfl
      have c7 := D.out.hb.at 7 _ rfl
      have c8 := D.out.hb.at 8 _ rfl
      have c9 := D.out.hb.at 9 _ rfl
      have c10 := D.out.hb.at 10 _ rfl
      go_wp2_with fail
      clear c0 c1 c2 c3 c4 c5 c6 c7 c8 c9 c10
      obtain ⟨W1, hW1⟩ : ∃ W, W = w104 := ⟨_, rfl⟩
      have hlq : o4.length ≤ 4000 := by omega
      have HQ := Lib.hid hlq
      go_loopg [6, 8] PZ (fun gk s6 s8 wr => ∃ (j : Nat) (A' : Option Addr) (c' : Nat) (out : List Int), gk + j = PZ ∧ s8 = .int .i64 ((j : Int) + 1) ∧ s6 = .slice A' out.length c' ∧ Hid (out = o4 ++ List.replicate j (0 : Int)) ∧ Hid (out.length ≤ 4000 + j) ∧ Hid (EState w wr [.bool false, .int .u8 ty, .int .u16 sq, .int .u32 ti, .int .u32 so, .slice Am mx.length cm, .bool false, .int .u16 0, .slice Ae 0 ce, .slice Ap pl.length cp, .int .i64 pad] A' c' out))
      case atStart => exact ⟨0, A4, c4', o4, rfl, rfl, rfl, Lib.hid (by simp), Lib.hid (by omega), D⟩
      case round =>
        clear D
        obtain ⟨j, Aj, cj', oj, hgj, rfl, rfl, HOj, HLj, D⟩ := hrel
        have hlj := HLj.out
        by_cases hltj : j < PZ
        · have hj0 : (j : Int) + 1 < pad := by have := HPZ.out; omega
          have c0 := D.out.hb.at 0 _ rfl
          have c1 := D.out.hb.at 1 _ rfl
          have c2 := D.out.hb.at 2 _ rfl
          have c3 := D.out.hb.at 3 _ rfl
          have c4 := D.out.hb.at 4 _ rfl
          have c5 := D.out.hb.at 5 _ rfl
          have c6 := D.out.hb.at 6 _ rfl
          have c7 := D.out.hb.at 7 _ rfl
          have c8 := D.out.hb.at 8 _ rfl
          have c9 := D.out.hb.at 9 _ rfl
          have c10 := D.out.hb.at 10 _ rfl
          have hws := D.out.hu.size
          go_wp2_with (at_builtin
                       go_loud (refine wpList_append_at rfl _ _ 25 rfl w.heap.size 5 1 1 (.int .u8 0) Try.underlying25 info_u8 rfl (by decide) Aj oj.length cj' (u8s oj) rfl D.out.ho [.int .u8 0] rfl (by simp [Value.oneCell']) rfl (by unfold maxLen; omega) (by omega) hws ?_)
                       intro A8 c8' w8 hown hgr hat)
          have D' := Lib.hid (D.out.grown (l := [0]) (by rw [List.length_append]; rfl) rfl hown hgr)
          go_roundg (gk - 1)
          case measure => omega
          case rel => exact ⟨j + 1, A8, c8', oj ++ [0], by omega, by go_num, by first | rfl | (rw [List.length_append]; rfl), Lib.hid (by rw [HOj.out, List.append_assoc, List.replicate_succ']), Lib.hid (by rw [List.length_append]; simp; omega), D'⟩
        · obtain rfl : j = PZ := by omega
          have hj0 : pad ≤ (j : Int) + 1 := by have := HPZ.out; omega
          have HXj := HOj
          clear HOj HLj
          have c0 := D.out.hb.at 0 _ rfl
          have c1 := D.out.hb.at 1 _ rfl
          have c2 := D.out.hb.at 2 _ rfl
          have c3 := D.out.hb.at 3 _ rfl
          have c4 := D.out.hb.at 4 _ rfl
          have c5 := D.out.hb.at 5 _ rfl
          have c6 := D.out.hb.at 6 _ rfl
          have c7 := D.out.hb.at 7 _ rfl
          have c8 := D.out.hb.at 8 _ rfl
          have c9 := D.out.hb.at 9 _ rfl
          have c10 := D.out.hb.at 10 _ rfl
          have hws := D.out.hu.size
          go_upto_region 34 with (at_builtin; go_loud (refine wpList_append_at rfl _ _ 25 rfl w.heap.size 5 1 1 (.int .u8 0) Try.underlying25 info_u8 rfl (by decide) Aj oj.length cj' (u8s oj) rfl D.out.ho [.int .u8 pad] rfl (by simp [Value.oneCell']) rfl (by unfold maxLen; omega) (by omega) hws ?_); intro A5 c5' w105 hown hgr hat)
          clear c0 c1 c2 c3 c4 c5 c6 c7 c8 c9 c10 hws
          have D' := Lib.hid (D.out.grown (l := [pad]) (by rw [List.length_append]; rfl) rfl hown hgr)
          clear D hown hgr hat
          have D := D'
          clear D'
          obtain ⟨o5, hO5⟩ : ∃ o, o = oj ++ [pad] := ⟨_, rfl⟩
          rw [← hO5] at D
          have HE5 := Lib.hid hO5
          have hq5 : oj.length + 1 = o5.length := by rw [hO5, List.length_append]; rfl
          have hl5 : o5.length ≤ oj.length + 1 := by omega
          rw [hq5]
          clear hq5 hO5
          have hfin : o5 = Pk.bytes ⟨false, ty, sq, ti, so, mx, false, 0, [], pl, pad⟩ := by
            unfold Pk.bytes Pk.lead Pk.tail
            rw [HE5.out, HXj.out, HE4.out, HX.out, HE3.out, HE2.out, HE1.out, HE0.out]
            have e1 : (pad - 1).toNat = j := by have := HPZ.out; omega
            have hn : ¬pad = 0 := by omega
            simp only [e1]
            simp [List.append_assoc, hn]
            try omega
          have HFIN := Lib.hid hfin
          clear hfin
          have c0 := D.out.hb.at 0 _ rfl
          have c1 := D.out.hb.at 1 _ rfl
          have c2 := D.out.hb.at 2 _ rfl
          have c3 := D.out.hb.at 3 _ rfl
          have c4 := D.out.hb.at 4 _ rfl
          have c5 := D.out.hb.at 5 _ rfl
          have c6 := D.out.hb.at 6 _ rfl
          have c7 := D.out.hb.at 7 _ rfl
          have c8 := D.out.hb.at 8 _ rfl
          have c9 := D.out.hb.at 9 _ rfl
          have c10 := D.out.hb.at 10 _ rfl
          go_wp2_with fail
          go_ret2
          rw [← HFIN.out]
          exact ⟨A5, c5', rfl, IntsNew.of_own D.out.ho (Nat.le_refl _), D.out.hu⟩
open Go.RowKit
set_option linter.unusedVariables false
set_option linter.unusedSimpArgs false
attribute [local go_sem ↓] run_min_plain run_max_plain
attribute [local go_sem] setCell_drewN alloc_drewN
set_option maxRecDepth 100000 in
set_option maxHeartbeats 6400000 in
theorem rEnc_tfz (ty sq ti so : Int) (Am : Option Addr) (mx : List Int) (cm : Nat) (Ae : Option Addr) (ce : Nat) (Ap : Option Addr) (pl : List Int) (cp : Nat) (pad : Int) (w : World) (ty0 : 0 ≤ ty) (ty1 : ty ≤ 127) (sq0 : 0 ≤ sq) (sq1 : sq ≤ 65535) (ti0 : 0 ≤ ti) (ti1 : ti ≤ 4294967295) (so0 : 0 ≤ so) (so1 : so ≤ 4294967295) (hpad : pad = 0) (lm : mx.length ≤ 15) (lp : pl.length ≤ 1500) (hmx : Within 0 4294967295 mx) (hpb : 0 ≤ pad ∧ pad ≤ 255) (Im : IntsAt w w.heap.size .u32 Am mx) (Ip : IntsAt w w.heap.size .u8 Ap pl) : Calls Try.prog 14 #[.agg #[.bool true, .int .u8 ty, .int .u16 sq, .int .u32 ti, .int .u32 so, .slice Am mx.length cm, .bool false, .int .u16 0, .slice Ae 0 ce, .slice Ap pl.length cp, .int .i64 pad]] w (EncR (Pk.bytes ⟨true, ty, sq, ti, so, mx, false, 0, [], pl, pad⟩, 0) w) := by
  have HM := Lib.hid hmx
  have IM := Lib.hid Im
  have IP := Lib.hid Ip
  clear hmx Im Ip
  obtain ⟨pad0, pad1⟩ := hpb
  have v1 : (mx.length : Int) ≤ 15 := by omega
  have v3 : (pl.length : Int) ≤ 1500 := by omega
  have hw1 : IntKind.u8.wrap (128 + (mx.length : Int)) = 128 + (mx.length : Int) := by rw [u8_wrap]; omega
  have hw2 : IntKind.u8.wrap (ty + 128) = ty + 128 := by rw [u8_wrap]; omega
  have hpw : IntKind.u8.wrap pad = pad := by rw [u8_wrap]; omega
  obtain ⟨PZ, hPZ⟩ : ∃ n : Nat, n = (pad - 1).toNat := ⟨_, rfl⟩
  have hpz : PZ ≤ 254 := by omega
  have HPZ := Lib.hid hPZ
  have HPAD := Lib.hid hpad
  clear hPZ
  have hp1 : pad ≤ 0 := by omega
  clear hpad
  go_enter Try.func14, Try.ntmps14
  have hs1 : (w.alloc (.cells #[.bool true, .int .u8 ty, .int .u16 sq, .int .u32 ti, .int .u32 so, .slice Am mx.length cm, .bool false, .int .u16 0, .slice Ae 0 ce, .slice Ap pl.length cp, .int .i64 pad] 27)).heap.size = w.heap.size + 1 := size_alloc1 _ _
  have D : Hid (EState w ((w.alloc (.cells #[.bool true, .int .u8 ty, .int .u16 sq, .int .u32 ti, .int .u32 so, .slice Am mx.length cm, .bool false, .int .u16 0, .slice Ae 0 ce, .slice Ap pl.length cp, .int .i64 pad] 27)).alloc (.cells #[.int .u8 (128 + (mx.length : Int)), .int .u8 (ty + 128)] 5)) [.bool true, .int .u8 ty, .int .u16 sq, .int .u32 ti, .int .u32 so, .slice Am mx.length cm, .bool false, .int .u16 0, .slice Ae 0 ce, .slice Ap pl.length cp, .int .i64 pad] (some ⟨w.heap.size + 1, 0, none⟩) 2 [128 + (mx.length : Int), ty + 128]) := Lib.hid ⟨(Blk.new w 27 #[.bool true, .int .u8 ty, .int .u16 sq, .int .u32 ti, .int .u32 so, .slice Am mx.length cm, .bool false, .int .u16 0, .slice Ae 0 ce, .slice Ap pl.length cp, .int .i64 pad]).push _, Bel.push (Bel.push (Bel.refl w) _) _, by have h := Owns.lit (w.alloc (.cells #[.bool true, .int .u8 ty, .int .u16 sq, .int .u32 ti, .int .u32 so, .slice Am mx.length cm, .bool false, .int .u16 0, .slice Ae 0 ce, .slice Ap pl.length cp, .int .i64 pad] 27)) w.heap.size 5 (u8s [128 + (mx.length : Int), ty + 128]) 2 (by omega) (by unfold maxLen; omega) rfl; rw [hs1] at h; exact h⟩
  clear hs1
  go_wp2_with fail
  obtain ⟨W0, hW0⟩ : ∃ W, W = (w.alloc (.cells #[.bool true, .int .u8 ty, .int .u16 sq, .int .u32 ti, .int .u32 so, .slice Am mx.length cm, .bool false, .int .u16 0, .slice Ae 0 ce, .slice Ap pl.length cp, .int .i64 pad] 27)).alloc (.cells #[.int .u8 (128 + (mx.length : Int)), .int .u8 (ty + 128)] 5) := ⟨_, rfl⟩
  rw [← hW0] at D ⊢
  obtain ⟨o0, ho0⟩ : ∃ o : List Int, o = [128 + (mx.length : Int), ty + 128] := ⟨_, rfl⟩
  have hq0 : (2 : Nat) = o0.length := by rw [ho0]; rfl
  rw [← ho0] at D
  have HE0 := Lib.hid ho0
  have hl0 : o0.length ≤ 10 := by rw [← hq0]; omega
  clear hW0 ho0
  refine (D.out.num (sq) 2 (by omega) (by omega) (by omega)).mono ?_
  rintro e w1 ⟨B1, b1', rfl, J1, D'⟩
  clear D
  have D := D'
  clear D'
  rw [show Value.slice (some ⟨w.heap.size + 1, 0, none⟩) 2 2 = Value.slice (some ⟨w.heap.size + 1, 0, none⟩) o0.length 2 by rw [← hq0]]
  clear hq0
  have c0 := D.out.hb.at 0 _ rfl
  have c1 := D.out.hb.at 1 _ rfl
  have c2 := D.out.hb.at 2 _ rfl
  have c3 := D.out.hb.at 3 _ rfl
  have c4 := D.out.hb.at 4 _ rfl
  have c5 := D.out.hb.at 5 _ rfl
  have c6 := D.out.hb.at 6 _ rfl
  have c7 := D.out.hb.at 7 _ rfl
  have c8 := D.out.hb.at 8 _ rfl
  have c9 := D.out.hb.at 9 _ rfl
  have c10 := D.out.hb.at 10 _ rfl
  have hws := D.out.hu.size
  go_upto_region 17 with (at_builtin; go_loud (refine wpList_append_ints rfl (.tmp 84) (.tmp 88) 25 rfl w.heap.size 5 1 (.int .u8 0) Try.underlying25 info_u8 rfl (some ⟨w.heap.size + 1, 0, none⟩) o0.length 2 (u8s o0) rfl D.out.ho _ .u8 B1 b1' (be 2 (sq)) (by rw [be_len]; rfl) J1.out (by rw [be_len]; unfold maxLen; omega) (by rw [be_len]; omega) hws (o0.length + 2) (by rw [be_len]) ?_); intro A1 c1' w101 hown hgr hat)
  clear c0 c1 c2 c3 c4 c5 c6 c7 c8 c9 c10 hws
  have D' := Lib.hid (D.out.grown (l := be 2 (sq)) (by rw [List.length_append, be_len]) rfl hown hgr)
  clear D hown hgr hat
  have D := D'
  clear D'
  obtain ⟨o1, hO1⟩ : ∃ o, o = o0 ++ be 2 (sq) := ⟨_, rfl⟩
  rw [← hO1] at D
  have HE1 := Lib.hid hO1
  have hq1 : o0.length + 2 = o1.length := by rw [hO1, List.length_append, be_len]
  have hl1 : o1.length ≤ o0.length + 2 := by omega
  rw [hq1]
  clear hq1 hO1
  have c0 := D.out.hb.at 0 _ rfl
  have c1 := D.out.hb.at 1 _ rfl
  have c2 := D.out.hb.at 2 _ rfl
  have c3 := D.out.hb.at 3 _ rfl
  have c4 := D.out.hb.at 4 _ rfl
  have c5 := D.out.hb.at 5 _ rfl
  have c6 := D.out.hb.at 6 _ rfl
  have c7 := D.out.hb.at 7 _ rfl
  have c8 := D.out.hb.at 8 _ rfl
  have c9 := D.out.hb.at 9 _ rfl
  have c10 := D.out.hb.at 10 _ rfl
  go_wp2_with fail
  clear c0 c1 c2 c3 c4 c5 c6 c7 c8 c9 c10
  refine (D.out.num (ti) 4 (by omega) (by omega) (by omega)).mono ?_
  rintro e w2 ⟨B2, b2', rfl, J2, D'⟩
  clear D
  have D := D'
  clear D'
  have c0 := D.out.hb.at 0 _ rfl
  have c1 := D.out.hb.at 1 _ rfl
  have c2 := D.out.hb.at 2 _ rfl
  have c3 := D.out.hb.at 3 _ rfl
  have c4 := D.out.hb.at 4 _ rfl
  have c5 := D.out.hb.at 5 _ rfl
  have c6 := D.out.hb.at 6 _ rfl
  have c7 := D.out.hb.at 7 _ rfl
  have c8 := D.out.hb.at 8 _ rfl
  have c9 := D.out.hb.at 9 _ rfl
  have c10 := D.out.hb.at 10 _ rfl
  have hws := D.out.hu.size
  go_upto_region 18 with (at_builtin; go_loud (refine wpList_append_ints rfl (.tmp 90) (.tmp 94) 25 rfl w.heap.size 5 1 (.int .u8 0) Try.underlying25 info_u8 rfl A1 o1.length c1' (u8s o1) rfl D.out.ho _ .u8 B2 b2' (be 4 (ti)) (by rw [be_len]; rfl) J2.out (by rw [be_len]; unfold maxLen; omega) (by rw [be_len]; omega) hws (o1.length + 4) (by rw [be_len]) ?_); intro A2 c2' w102 hown hgr hat)
  clear c0 c1 c2 c3 c4 c5 c6 c7 c8 c9 c10 hws
  have D' := Lib.hid (D.out.grown (l := be 4 (ti)) (by rw [List.length_append, be_len]) rfl hown hgr)
  clear D hown hgr hat
  have D := D'
  clear D'
  obtain ⟨o2, hO2⟩ : ∃ o, o = o1 ++ be 4 (ti) := ⟨_, rfl⟩
  rw [← hO2] at D
  have HE2 := Lib.hid hO2
  have hq2 : o1.length + 4 = o2.length := by rw [hO2, List.length_append, be_len]
  have hl2 : o2.length ≤ o1.length + 4 := by omega
  rw [hq2]
  clear hq2 hO2
  have c0 := D.out.hb.at 0 _ rfl
  have c1 := D.out.hb.at 1 _ rfl
  have c2 := D.out.hb.at 2 _ rfl
  have c3 := D.out.hb.at 3 _ rfl
  have c4 := D.out.hb.at 4 _ rfl
  have c5 := D.out.hb.at 5 _ rfl
  have c6 := D.out.hb.at 6 _ rfl
  have c7 := D.out.hb.at 7 _ rfl
  have c8 := D.out.hb.at 8 _ rfl
  have c9 := D.out.hb.at 9 _ rfl
  have c10 := D.out.hb.at 10 _ rfl
  go_wp2_with fail
  clear c0 c1 c2 c3 c4 c5 c6 c7 c8 c9 c10
  refine (D.out.num (so) 4 (by omega) (by omega) (by omega)).mono ?_
  rintro e w3 ⟨B3, b3', rfl, J3, D'⟩
  clear D
  have D := D'
  clear D'
  have c0 := D.out.hb.at 0 _ rfl
  have c1 := D.out.hb.at 1 _ rfl
  have c2 := D.out.hb.at 2 _ rfl
  have c3 := D.out.hb.at 3 _ rfl
  have c4 := D.out.hb.at 4 _ rfl
  have c5 := D.out.hb.at 5 _ rfl
  have c6 := D.out.hb.at 6 _ rfl
  have c7 := D.out.hb.at 7 _ rfl
  have c8 := D.out.hb.at 8 _ rfl
  have c9 := D.out.hb.at 9 _ rfl
  have c10 := D.out.hb.at 10 _ rfl
  have hws := D.out.hu.size
  go_upto_region 19 with (at_builtin; go_loud (refine wpList_append_ints rfl (.tmp 96) (.tmp 100) 25 rfl w.heap.size 5 1 (.int .u8 0) Try.underlying25 info_u8 rfl A2 o2.length c2' (u8s o2) rfl D.out.ho _ .u8 B3 b3' (be 4 (so)) (by rw [be_len]; rfl) J3.out (by rw [be_len]; unfold maxLen; omega) (by rw [be_len]; omega) hws (o2.length + 4) (by rw [be_len]) ?_); intro A3 c3' w103 hown hgr hat)
  clear c0 c1 c2 c3 c4 c5 c6 c7 c8 c9 c10 hws
  have D' := Lib.hid (D.out.grown (l := be 4 (so)) (by rw [List.length_append, be_len]) rfl hown hgr)
  clear D hown hgr hat
  have D := D'
  clear D'
  obtain ⟨o3, hO3⟩ : ∃ o, o = o2 ++ be 4 (so) := ⟨_, rfl⟩
  rw [← hO3] at D
  have HE3 := Lib.hid hO3
  have hq3 : o2.length + 4 = o3.length := by rw [hO3, List.length_append, be_len]
  have hl3 : o3.length ≤ o2.length + 4 := by omega
  rw [hq3]
  clear hq3 hO3
  have c0 := D.out.hb.at 0 _ rfl
  have c1 := D.out.hb.at 1 _ rfl
  have c2 := D.out.hb.at 2 _ rfl
  have c3 := D.out.hb.at 3 _ rfl
  have c4 := D.out.hb.at 4 _ rfl
  have c5 := D.out.hb.at 5 _ rfl
  have c6 := D.out.hb.at 6 _ rfl
  have c7 := D.out.hb.at 7 _ rfl
  have c8 := D.out.hb.at 8 _ rfl
  have c9 := D.out.hb.at 9 _ rfl
  have c10 := D.out.hb.at 10 _ rfl
  go_wp2_with fail
  clear c0 c1 c2 c3 c4 c5 c6 c7 c8 c9 c10
  go_loopg [6, 7] mx.length (fun gk s6 s7 wr => ∃ (k : Nat) (A' : Option Addr) (c' : Nat) (out : List Int), gk + k = mx.length ∧ s7 = .int .i64 k ∧ s6 = .slice A' out.length c' ∧ Hid (out = o3 ++ (mx.take k).flatMap (be 4)) ∧ Hid (out.length ≤ 20 + 4 * k) ∧ Hid (EState w wr [.bool true, .int .u8 ty, .int .u16 sq, .int .u32 ti, .int .u32 so, .slice Am mx.length cm, .bool false, .int .u16 0, .slice Ae 0 ce, .slice Ap pl.length cp, .int .i64 pad] A' c' out))
  case atStart => exact ⟨0, A3, c3', o3, rfl, rfl, rfl, Lib.hid (by simp), Lib.hid (by omega), D⟩
  case round =>
    clear D
    obtain ⟨k, A', c', out, hg, rfl, rfl, HO, HL, D⟩ := hrel
    have hln := HL.out
    by_cases hlt : k < mx.length
    · have hi0 : (0 : Int) ≤ (k : Int) := by omega
      have hi1 : (k : Int) < (mx.length : Int) := by omega
      obtain ⟨b, off, rfl, hbB, hcell⟩ := IM.out (by omega)
      have q1 := (D.out.hu.cell (p := ⟨b, off + k, none⟩) hbB).trans (hcell k hlt)
      obtain ⟨z0, z1⟩ := HM.out.at hlt
      have hst := flat4_take mx k hlt
      generalize mx.getD k 0 = z at *
      have HST := Lib.hid hst
      clear hst hcell
      have c0 := D.out.hb.at 0 _ rfl
      have c1 := D.out.hb.at 1 _ rfl
      have c2 := D.out.hb.at 2 _ rfl
      have c3 := D.out.hb.at 3 _ rfl
      have c4 := D.out.hb.at 4 _ rfl
      have c5 := D.out.hb.at 5 _ rfl
      have c6 := D.out.hb.at 6 _ rfl
      have c7 := D.out.hb.at 7 _ rfl
      have c8 := D.out.hb.at 8 _ rfl
      have c9 := D.out.hb.at 9 _ rfl
      have c10 := D.out.hb.at 10 _ rfl
      go_wp2_with fail
      clear c0 c1 c2 c3 c4 c5 c6 c7 c8 c9 c10
      refine (D.out.num z 4 (by omega) (by omega) (by omega)).mono ?_
      rintro e w9 ⟨B9, b9', rfl, J9, D'⟩
      clear D
      have D := D'
      clear D'
      have c0 := D.out.hb.at 0 _ rfl
      have c1 := D.out.hb.at 1 _ rfl
      have c2 := D.out.hb.at 2 _ rfl
      have c3 := D.out.hb.at 3 _ rfl
      have c4 := D.out.hb.at 4 _ rfl
      have c5 := D.out.hb.at 5 _ rfl
      have c6 := D.out.hb.at 6 _ rfl
      have c7 := D.out.hb.at 7 _ rfl
      have c8 := D.out.hb.at 8 _ rfl
      have c9 := D.out.hb.at 9 _ rfl
      have c10 := D.out.hb.at 10 _ rfl
      have hws := D.out.hu.size
      go_wp2_with (at_builtin
                   go_loud (refine wpList_append_ints rfl (.tmp 109) (.tmp 116) 25 rfl w.heap.size 5 1 (.int .u8 0) Try.underlying25 info_u8 rfl A' out.length c' (u8s out) rfl D.out.ho _ .u8 B9 b9' (be 4 z) (by rw [be_len]; rfl) J9.out (by rw [be_len]; unfold maxLen; omega) (by rw [be_len]; omega) hws (out.length + 4) (by rw [be_len]) ?_)
                   intro A8 c8' w8 hown hgr hat)
      have D' := Lib.hid (D.out.grown (l := be 4 z) (by rw [List.length_append, be_len]) rfl hown hgr)
      go_roundg (gk - 1)
      case measure => omega
      case rel => exact ⟨k + 1, A8, c8', out ++ be 4 z, by omega, by go_num, by first | rfl | rw [List.length_append, be_len], Lib.hid (by rw [HST.out, HO.out, List.append_assoc]), Lib.hid (by rw [List.length_append, be_len]; omega), D'⟩
    · obtain rfl : k = mx.length := by omega
      have hi1 : (mx.length : Int) ≤ (mx.length : Int) := Int.le_refl _
      have hx : out = o3 ++ mx.flatMap (be 4) := by rw [HO.out, List.take_length]
      have HX := Lib.hid hx
      clear hx HO HL
      have c0 := D.out.hb.at 0 _ rfl
      have c1 := D.out.hb.at 1 _ rfl
      have c2 := D.out.hb.at 2 _ rfl
      have c3 := D.out.hb.at 3 _ rfl
      have c4 := D.out.hb.at 4 _ rfl
      have c5 := D.out.hb.at 5 _ rfl
      have c6 := D.out.hb.at 6 _ rfl
      have c7 := D.out.hb.at 7 _ rfl
      have c8 := D.out.hb.at 8 _ rfl
      have c9 := D.out.hb.at 9 _ rfl
      have c10 := D.out.hb.at 10 _ rfl
      have hws := D.out.hu.size
      go_upto_region 28 with (at_builtin; go_loud (refine wpList_append_ints rfl (.tmp 137) (.tmp 139) 25 rfl w.heap.size 5 1 (.int .u8 0) Try.underlying25 info_u8 rfl A' out.length c' (u8s out) rfl D.out.ho _ .u8 Ap cp pl rfl (IP.out.below D.out.hu) (by unfold maxLen; omega) (by omega) hws (out.length + pl.length) rfl ?_); intro A4 c4' w104 hown hgr hat)
      clear c0 c1 c2 c3 c4 c5 c6 c7 c8 c9 c10 hws
      have D' := Lib.hid (D.out.grown (l := pl) (by rw [List.length_append]) rfl hown hgr)
      clear D hown hgr hat
      have D := D'
      clear D'
      obtain ⟨o4, hO4⟩ : ∃ o, o = out ++ pl := ⟨_, rfl⟩
      rw [← hO4] at D
      have HE4 := Lib.hid hO4
      have hq4 : out.length + pl.length = o4.length := by rw [hO4, List.length_append]
      have hl4 : o4.length ≤ out.length + pl.length := by omega
      rw [hq4]
      clear hq4 hO4
      have c0 := D.out.hb.at 0 _ rfl
      have c1 := D.out.hb.at 1 _ rfl
      have c2 := D.out.hb.at 2 _ rfl
      have c3 := D.out.hb.at 3 _ rfl
      have c4 := D.out.hb.at 4 _ rfl
      have c5 := D.out.hb.at 5 _ rfl
      have c6 := D.out.hb.at 6 _ rfl
      have c7 := D.out.hb.at 7 _ rfl
      have c8 := D.out.hb.at 8 _ rfl
      have c9 := D.out.hb.at 9 _ rfl
      have c10 := D.out.hb.at 10 _ rfl
      go_wp2_with fail
      clear c0 c1 c2 c3 c4 c5 c6 c7 c8 c9 c10
      obtain ⟨W1, hW1⟩ : ∃ W, W = w104 := ⟨_, rfl⟩
      have hlq : o4.length ≤ 4000 := by omega
      have HQ := Lib.hid hlq
      go_loopg [6, 8] PZ (fun gk s6 s8 wr => ∃ (j : Nat) (A' : Option Addr) (c' : Nat) (out : List Int), gk + j = PZ ∧ s8 = .int .i64 ((j : Int) + 1) ∧ s6 = .slice A' out.length c' ∧ Hid (out = o4 ++ List.replicate j (0 : Int)) ∧ Hid (out.length ≤ 4000 + j) ∧ Hid (EState w wr [.bool true, .int .u8 ty, .int .u16 sq, .int .u32 ti, .int .u32 so, .slice Am mx.length cm, .bool false, .int .u16 0, .slice Ae 0 ce, .slice Ap pl.length cp, .int .i64 pad] A' c' out))
      case atStart => exact ⟨0, A4, c4', o4, rfl, rfl, rfl, Lib.hid (by simp), Lib.hid (by omega), D⟩
      case round =>
        clear D
        obtain ⟨j, Aj, cj', oj, hgj, rfl, rfl, HOj, HLj, D⟩ := hrel
        have hlj := HLj.out
        by_cases hltj : j < PZ
        · exact absurd hltj (by have := HPZ.out; omega)
        · obtain rfl : j = PZ := by omega
          have hj0 : pad ≤ (j : Int) + 1 := by have := HPZ.out; omega
          have HXj := HOj
          clear HOj HLj
          have hfin : oj = Pk.bytes ⟨true, ty, sq, ti, so, mx, false, 0, [], pl, pad⟩ := by
            unfold Pk.bytes Pk.lead Pk.tail
            rw [HXj.out, HE4.out, HX.out, HE3.out, HE2.out, HE1.out, HE0.out]
            have e1 : j = 0 := by have := HPZ.out; have := HPAD.out; omega
            rw [e1, HPAD.out]
            simp [List.append_assoc]
          have HFIN := Lib.hid hfin
          clear hfin
          have c0 := D.out.hb.at 0 _ rfl
          have c1 := D.out.hb.at 1 _ rfl
          have c2 := D.out.hb.at 2 _ rfl
          have c3 := D.out.hb.at 3 _ rfl
          have c4 := D.out.hb.at 4 _ rfl
          have c5 := D.out.hb.at 5 _ rfl
          have c6 := D.out.hb.at 6 _ rfl
          have c7 := D.out.hb.at 7 _ rfl
          have c8 := D.out.hb.at 8 _ rfl
          have c9 := D.out.hb.at 9 _ rfl
          have c10 := D.out.hb.at 10 _ rfl
          go_wp2_with fail
          go_ret2
          rw [← HFIN.out]
          exact ⟨Aj, cj', rfl, IntsNew.of_own D.out.ho (Nat.le_refl _), D.out.hu⟩
set_option maxRecDepth 100000 in
set_option maxHeartbeats 6400000 in
theorem rEnc_tfp (ty sq ti so : Int) (Am : Option Addr) (mx : List Int) (cm : Nat) (Ae : Option Addr) (ce : Nat) (Ap : Option Addr) (pl : List Int) (cp : Nat) (pad : Int) (w : World) (ty0 : 0 ≤ ty) (ty1 : ty ≤ 127) (sq0 : 0 ≤ sq) (sq1 : sq ≤ 65535) (ti0 : 0 ≤ ti) (ti1 : ti ≤ 4294967295) (so0 : 0 ≤ so) (so1 : so ≤ 4294967295) (hpad : 1 ≤ pad) (lm : mx.length ≤ 15) (lp : pl.length ≤ 1500) (hmx : Within 0 4294967295 mx) (hpb : 0 ≤ pad ∧ pad ≤ 255) (Im : IntsAt w w.heap.size .u32 Am mx) (Ip : IntsAt w w.heap.size .u8 Ap pl) : Calls Try.prog 14 #[.agg #[.bool true, .int .u8 ty, .int .u16 sq, .int .u32 ti, .int .u32 so, .slice Am mx.length cm, .bool false, .int .u16 0, .slice Ae 0 ce, .slice Ap pl.length cp, .int .i64 pad]] w (EncR (Pk.bytes ⟨true, ty, sq, ti, so, mx, false, 0, [], pl, pad⟩, 0) w) := by
  have HM := Lib.hid hmx
  have IM := Lib.hid Im
  have IP := Lib.hid Ip
  clear hmx Im Ip
  obtain ⟨pad0, pad1⟩ := hpb
  have v1 : (mx.length : Int) ≤ 15 := by omega
  have v3 : (pl.length : Int) ≤ 1500 := by omega
  have hw1 : IntKind.u8.wrap (128 + (mx.length : Int) + 32) = 128 + (mx.length : Int) + 32 := by rw [u8_wrap]; omega
  have hw2 : IntKind.u8.wrap (ty + 128) = ty + 128 := by rw [u8_wrap]; omega
  have hpw : IntKind.u8.wrap pad = pad := by rw [u8_wrap]; omega
  obtain ⟨PZ, hPZ⟩ : ∃ n : Nat, n = (pad - 1).toNat := ⟨_, rfl⟩
  have hpz : PZ ≤ 254 := by omega
  have HPZ := Lib.hid hPZ
  have HPAD := Lib.hid hpad
  clear hPZ
  have hp1 : 0 < pad := by omega
  go_enter Try.func14, Try.ntmps14
  have hs1 : (w.alloc (.cells #[.bool true, .int .u8 ty, .int .u16 sq, .int .u32 ti, .int .u32 so, .slice Am mx.length cm, .bool false, .int .u16 0, .slice Ae 0 ce, .slice Ap pl.length cp, .int .i64 pad] 27)).heap.size = w.heap.size + 1 := size_alloc1 _ _
  have D : Hid (EState w ((w.alloc (.cells #[.bool true, .int .u8 ty, .int .u16 sq, .int .u32 ti, .int .u32 so, .slice Am mx.length cm, .bool false, .int .u16 0, .slice Ae 0 ce, .slice Ap pl.length cp, .int .i64 pad] 27)).alloc (.cells #[.int .u8 (128 + (mx.length : Int) + 32), .int .u8 (ty + 128)] 5)) [.bool true, .int .u8 ty, .int .u16 sq, .int .u32 ti, .int .u32 so, .slice Am mx.length cm, .bool false, .int .u16 0, .slice Ae 0 ce, .slice Ap pl.length cp, .int .i64 pad] (some ⟨w.heap.size + 1, 0, none⟩) 2 [128 + (mx.length : Int) + 32, ty + 128]) := Lib.hid ⟨(Blk.new w 27 #[.bool true, .int .u8 ty, .int .u16 sq, .int .u32 ti, .int .u32 so, .slice Am mx.length cm, .bool false, .int .u16 0, .slice Ae 0 ce, .slice Ap pl.length cp, .int .i64 pad]).push _, Bel.push (Bel.push (Bel.refl w) _) _, by have h := Owns.lit (w.alloc (.cells #[.bool true, .int .u8 ty, .int .u16 sq, .int .u32 ti, .int .u32 so, .slice Am mx.length cm, .bool false, .int .u16 0, .slice Ae 0 ce, .slice Ap pl.length cp, .int .i64 pad] 27)) w.heap.size 5 (u8s [128 + (mx.length : Int) + 32, ty + 128]) 2 (by omega) (by unfold maxLen; omega) rfl; rw [hs1] at h; exact h⟩
  clear hs1
  go_wp2_with fail
  obtain ⟨W0, hW0⟩ : ∃ W, W = (w.alloc (.cells #[.bool true, .int .u8 ty, .int .u16 sq, .int .u32 ti, .int .u32 so, .slice Am mx.length cm, .bool false, .int .u16 0, .slice Ae 0 ce, .slice Ap pl.length cp, .int .i64 pad] 27)).alloc (.cells #[.int .u8 (128 + (mx.length : Int) + 32), .int .u8 (ty + 128)] 5) := ⟨_, rfl⟩
  rw [← hW0] at D ⊢
  obtain ⟨o0, ho0⟩ : ∃ o : List Int, o = [128 + (mx.length : Int) + 32, ty + 128] := ⟨_, rfl⟩
  have hq0 : (2 : Nat) = o0.length := by rw [ho0]; rfl
  rw [← ho0] at D
  have HE0 := Lib.hid ho0
  have hl0 : o0.length ≤ 10 := by rw [← hq0]; omega
  clear hW0 ho0
  refine (D.out.num (sq) 2 (by omega) (by omega) (by omega)).mono ?_
  rintro e w1 ⟨B1, b1', rfl, J1, D'⟩
  clear D
  have D := D'
  clear D'
  rw [show Value.slice (some ⟨w.heap.size + 1, 0, none⟩) 2 2 = Value.slice (some ⟨w.heap.size + 1, 0, none⟩) o0.length 2 by rw [← hq0]]
  clear hq0
  have c0 := D.out.hb.at 0 _ rfl
  have c1 := D.out.hb.at 1 _ rfl
  have c2 := D.out.hb.at 2 _ rfl
  have c3 := D.out.hb.at 3 _ rfl
  have c4 := D.out.hb.at 4 _ rfl
  have c5 := D.out.hb.at 5 _ rfl
  have c6 := D.out.hb.at 6 _ rfl
  have c7 := D.out.hb.at 7 _ rfl
  have c8 := D.out.hb.at 8 _ rfl
  have c9 := D.out.hb.at 9 _ rfl
  have c10 := D.out.hb.at 10 _ rfl
  have hws := D.out.hu.size
  go_upto_region 17 with (at_builtin; go_loud (refine wpList_append_ints rfl (.tmp 84) (.tmp 88) 25 rfl w.heap.size 5 1 (.int .u8 0) Try.underlying25 info_u8 rfl (some ⟨w.heap.size + 1, 0, none⟩) o0.length 2 (u8s o0) rfl D.out.ho _ .u8 B1 b1' (be 2 (sq)) (by rw [be_len]; rfl) J1.out (by rw [be_len]; unfold maxLen; omega) (by rw [be_len]; omega) hws (o0.length + 2) (by rw [be_len]) ?_); intro A1 c1' w101 hown hgr hat)
  clear c0 c1 c2 c3 c4 c5 c6 c7 c8 c9 c10 hws
  have D' := Lib.hid (D.out.grown (l := be 2 (sq)) (by rw [List.length_append, be_len]) rfl hown hgr)
  clear D hown hgr hat
  have D := D'
  clear D'
  obtain ⟨o1, hO1⟩ : ∃ o, o = o0 ++ be 2 (sq) := ⟨_, rfl⟩
  rw [← hO1] at D
  have HE1 := Lib.hid hO1
  have hq1 : o0.length + 2 = o1.length := by rw [hO1, List.length_append, be_len]
  have hl1 : o1.length ≤ o0.length + 2 := by omega
  rw [hq1]
  clear hq1 hO1
  have c0 := D.out.hb.at 0 _ rfl
  have c1 := D.out.hb.at 1 _ rfl
  have c2 := D.out.hb.at 2 _ rfl
  have c3 := D.out.hb.at 3 _ rfl
  have c4 := D.out.hb.at 4 _ rfl
  have c5 := D.out.hb.at 5 _ rfl
  have c6 := D.out.hb.at 6 _ rfl
  have c7 := D.out.hb.at 7 _ rfl
  have c8 := D.out.hb.at 8 _ rfl
  have c9 := D.out.hb.at 9 _ rfl
  have c10 := D.out.hb.at 10 _ rfl
  go_wp2_with fail
  clear c0 c1 c2 c3 c4 c5 c6 c7 c8 c9 c10
  refine (D.out.num (ti) 4 (by omega) (by omega) (by omega)).mono ?_
  rintro e w2 ⟨B2, b2', rfl, J2, D'⟩
  clear D
  have D := D'
  clear D'
  have c0 := D.out.hb.at 0 _ rfl
  have c1 := D.out.hb.at 1 _ rfl
  have c2 := D.out.hb.at 2 _ rfl
  have c3 := D.out.hb.at 3 _ rfl
  have c4 := D.out.hb.at 4 _ rfl
  have c5 := D.out.hb.at 5 _ rfl
  have c6 := D.out.hb.at 6 _ rfl
  have c7 := D.out.hb.at 7 _ rfl
  have c8 := D.out.hb.at 8 _ rfl
  have c9 := D.out.hb.at 9 _ rfl
  have c10 := D.out.hb.at 10 _ rfl
  have hws := D.out.hu.size
  go_upto_region 18 with (at_builtin; go_loud (refine wpList_append_ints rfl (.tmp 90) (.tmp 94) 25 rfl w.heap.size 5 1 (.int .u8 0) Try.underlying25 info_u8 rfl A1 o1.length c1' (u8s o1) rfl D.out.ho _ .u8 B2 b2' (be 4 (ti)) (by rw [be_len]; rfl) J2.out (by rw [be_len]; unfold maxLen; omega) (by rw [be_len]; omega) hws (o1.length + 4) (by rw [be_len]) ?_); intro A2 c2' w102 hown hgr hat)
  clear c0 c1 c2 c3 c4 c5 c6 c7 c8 c9 c10 hws
  have D' := Lib.hid (D.out.grown (l := be 4 (ti)) (by rw [List.length_append, be_len]) rfl hown hgr)
  clear D hown hgr hat
  have D := D'
  clear D'
  obtain ⟨o2, hO2⟩ : ∃ o, o = o1 ++ be 4 (ti) := ⟨_, rfl⟩
  rw [← hO2] at D
  have HE2 := Lib.hid hO2
  have hq2 : o1.length + 4 = o2.length := by rw [hO2, List.length_append, be_len]
  have hl2 : o2.length ≤ o1.length + 4 := by omega
  rw [hq2]
  clear hq2 hO2
  have c0 := D.out.hb.at 0 _ rfl
  have c1 := D.out.hb.at 1 _ rfl
  have c2 := D.out.hb.at 2 _ rfl
  have c3 := D.out.hb.at 3 _ rfl
  have c4 := D.out.hb.at 4 _ rfl
  have c5 := D.out.hb.at 5 _ rfl
  have c6 := D.out.hb.at 6 _ rfl
  have c7 := D.out.hb.at 7 _ rfl
  have c8 := D.out.hb.at 8 _ rfl
  have c9 := D.out.hb.at 9 _ rfl
  have c10 := D.out.hb.at 10 _ rfl
  go_wp2_with fail
  clear c0 c1 c2 c3 c4 c5 c6 c7 c8 c9 c10
  refine (D.out.num (so) 4 (by omega) (by omega) (by omega)).mono ?_
  rintro e w3 ⟨B3, b3', rfl, J3, D'⟩
  clear D
  have D := D'
  clear D'
  have c0 := D.out.hb.at 0 _ rfl
  have c1 := D.out.hb.at 1 _ rfl
  have c2 := D.out.hb.at 2 _ rfl
  have c3 := D.out.hb.at 3 _ rfl
  have c4 := D.out.hb.at 4 _ rfl
  have c5 := D.out.hb.at 5 _ rfl
  have c6 := D.out.hb.at 6 _ rfl
  have c7 := D.out.hb.at 7 _ rfl
  have c8 := D.out.hb.at 8 _ rfl
  have c9 := D.out.hb.at 9 _ rfl
  have c10 := D.out.hb.at 10 _ rfl
  have hws := D.out.hu.size
  go_upto_region 19 with (at_builtin; go_loud (refine wpList_append_ints rfl (.tmp 96) (.tmp 100) 25 rfl w.heap.size 5 1 (.int .u8 0) Try.underlying25 info_u8 rfl A2 o2.length c2' (u8s o2) rfl D.out.ho _ .u8 B3 b3' (be 4 (so)) (by rw [be_len]; rfl) J3.out (by rw [be_len]; unfold maxLen; omega) (by rw [be_len]; omega) hws (o2.length + 4) (by rw [be_len]) ?_); intro A3 c3' w103 hown hgr hat)
  clear c0 c1 c2 c3 c4 c5 c6 c7 c8 c9 c10 hws
  have D' := Lib.hid (D.out.grown (l := be 4 (so)) (by rw [List.length_append, be_len]) rfl hown hgr)
  clear D hown hgr hat
  have D := D'
  clear D'
  obtain ⟨o3, hO3⟩ : ∃ o, o = o2 ++ be 4 (so) := ⟨_, rfl⟩
  rw [← hO3] at D
  have HE3 := Lib.hid hO3
  have hq3 : o2.length + 4 = o3.length := by rw [hO3, List.length_append, be_len]
  have hl3 : o3.length ≤ o2.length + 4 := by omega
  rw [hq3]
  clear hq3 hO3
  have c0 := D.out.hb.at 0 _ rfl
  have c1 := D.out.hb.at 1 _ rfl
  have c2 := D.out.hb.at 2 _ rfl
  have c3 := D.out.hb.at 3 _ rfl
  have c4 := D.out.hb.at 4 _ rfl
  have c5 := D.out.hb.at 5 _ rfl
  have c6 := D.out.hb.at 6 _ rfl
  have c7 := D.out.hb.at 7 _ rfl
  have c8 := D.out.hb.at 8 _ rfl
  have c9 := D.out.hb.at 9 _ rfl
  have c10 := D.out.hb.at 10 _ rfl
  go_wp2_with fail
  clear c0 c1 c2 c3 c4 c5 c6 c7 c8 c9 c10
  go_loopg [6, 7] mx.length (fun gk s6 s7 wr => ∃ (k : Nat) (A' : Option Addr) (c' : Nat) (out : List Int), gk + k = mx.length ∧ s7 = .int .i64 k ∧ s6 = .slice A' out.length c' ∧ Hid (out = o3 ++ (mx.take k).flatMap (be 4)) ∧ Hid (out.length ≤ 20 + 4 * k) ∧ Hid (EState w wr [.bool true, .int .u8 ty, .int .u16 sq, .int .u32 ti, .int .u32 so, .slice Am mx.length cm, .bool false, .int .u16 0, .slice Ae 0 ce, .slice Ap pl.length cp, .int .i64 pad] A' c' out))
  case atStart => exact ⟨0, A3, c3', o3, rfl, rfl, rfl, Lib.hid (by simp), Lib.hid (by omega), D⟩
  case round =>
    clear D
    obtain ⟨k, A', c', out, hg, rfl, rfl, HO, HL, D⟩ := hrel
    have hln := HL.out
    by_cases hlt : k < mx.length
    · have hi0 : (0 : Int) ≤ (k : Int) := by omega
      have hi1 : (k : Int) < (mx.length : Int) := by omega
      obtain ⟨b, off, rfl, hbB, hcell⟩ := IM.out (by omega)
      have q1 := (D.out.hu.cell (p := ⟨b, off + k, none⟩) hbB).trans (hcell k hlt)
      obtain ⟨z0, z1⟩ := HM.out.at hlt
      have hst := flat4_take mx k hlt
      generalize mx.getD k 0 = z at *
      have HST := Lib.hid hst
      clear hst hcell
      have c0 := D.out.hb.at 0 _ rfl
      have c1 := D.out.hb.at 1 _ rfl
      have c2 := D.out.hb.at 2 _ rfl
      have c3 := D.out.hb.at 3 _ rfl
      have c4 := D.out.hb.at 4 _ rfl
      have c5 := D.out.hb.at 5 _ rfl
      have c6 := D.out.hb.at 6 _ rfl
      have c7 := D.out.hb.at 7 _ rfl
      have c8 := D.out.hb.at 8 _ rfl
      have c9 := D.out.hb.at 9 _ rfl
      have c10 := D.out.hb.at 10 _ rfl
      go_wp2_with fail
      clear c0 c1 c2 c3 c4 c5 c6 c7 c8 c9 c10
      refine (D.out.num z 4 (by omega) (by omega) (by omega)).mono ?_
      rintro e w9 ⟨B9, b9', rfl, J9, D'⟩
      clear D
      have D := D'
      clear D'
      have c0 := D.out.hb.at 0 _ rfl
      have c1 := D.out.hb.at 1 _ rfl
      have c2 := D.out.hb.at 2 _ rfl
      have c3 := D.out.hb.at 3 _ rfl
      have c4 := D.out.hb.at 4 _ rfl
      have c5 := D.out.hb.at 5 _ rfl
      have c6 := D.out.hb.at 6 _ rfl
      have c7 := D.out.hb.at 7 _ rfl
      have c8 := D.out.hb.at 8 _ rfl
      have c9 := D.out.hb.at 9 _ rfl
      have c10 := D.out.hb.at 10 _ rfl
      have hws := D.out.hu.size
      go_wp2_with (at_builtin
                   go_loud (refine wpList_append_ints rfl (.tmp 109) (.tmp 116) 25 rfl w.heap.size 5 1 (.int .u8 0) Try.underlying25 info_u8 rfl A' out.length c' (u8s out) rfl D.out.ho _ .u8 B9 b9' (be 4 z) (by rw [be_len]; rfl) J9.out (by rw [be_len]; unfold maxLen; omega) (by rw [be_len]; omega) hws (out.length + 4) (by rw [be_len]) ?_)
                   intro A8 c8' w8 hown hgr hat)
      have D' := Lib.hid (D.out.grown (l := be 4 z) (by rw [List.length_append, be_len]) rfl hown hgr)
      go_roundg (gk - 1)
      case measure => omega
      case rel => exact ⟨k + 1, A8, c8', out ++ be 4 z, by omega, by go_num, by first | rfl | rw [List.length_append, be_len], Lib.hid (by rw [HST.out, HO.out, List.append_assoc]), Lib.hid (by rw [List.length_append, be_len]; omega), D'⟩
    · obtain rfl : k = mx.length := by omega
      have hi1 : (mx.length : Int) ≤ (mx.length : Int) := Int.le_refl _
      have hx : out = o3 ++ mx.flatMap (be 4) := by rw [HO.out, List.take_length]
      have HX := Lib.hid hx
      clear hx HO HL
      have c0 := D.out.hb.at 0 _ rfl
      have c1 := D.out.hb.at 1 _ rfl
      have c2 := D.out.hb.at 2 _ rfl
      have c3 := D.out.hb.at 3 _ rfl
      have c4 := D.out.hb.at 4 _ rfl
      have c5 := D.out.hb.at 5 _ rfl
      have c6 := D.out.hb.at 6 _ rfl
      have c7 := D.out.hb.at 7 _ rfl
      have c8 := D.out.hb.at 8 _ rfl
      have c9 := D.out.hb.at 9 _ rfl
      have c10 := D.out.hb.at 10 _ rfl
      have hws := D.out.hu.size
      go_upto_region 28 with (at_builtin; go_loud (refine wpList_append_ints rfl (.tmp 137) (.tmp 139) 25 rfl w.heap.size 5 1 (.int .u8 0) Try.underlying25 info_u8 rfl A' out.length c' (u8s out) rfl D.out.ho _ .u8 Ap cp pl rfl (IP.out.below D.out.hu) (by unfold maxLen; omega) (by omega) hws (out.length + pl.length) rfl ?_); intro A4 c4' w104 hown hgr hat)
      clear c0 c1 c2 c3 c4 c5 c6 c7 c8 c9 c10 hws
      have D' := Lib.hid (D.out.grown (l := pl) (by rw [List.length_append]) rfl hown hgr)
      clear D hown hgr hat
      have D := D'
      clear D'
      obtain ⟨o4, hO4⟩ : ∃ o, o = out ++ pl := ⟨_, rfl⟩
      rw [← hO4] at D
      have HE4 := Lib.hid hO4
      have hq4 : out.length + pl.length = o4.length := by rw [hO4, List.length_append]
      have hl4 : o4.length ≤ out.length + pl.length := by omega
      rw [hq4]
      clear hq4 hO4
      have c0 := D.out.hb.at 0 _ rfl
      have c1 := D.out.hb.at 1 _ rfl
      have c2 := D.out.hb.at 2 _ rfl
      have c3 := D.out.hb.at 3 _ rfl
      have c4 := D.out.hb.at 4 _ rfl
      have c5 := D.out.hb.at 5 _ rfl
      have c6 := D.out.hb.at 6 _ rfl
      have c7 := D.out.hb.at 7 _ rfl
      have c8 := D.out.hb.at 8 _ rfl
      have c9 := D.out.hb.at 9 _ rfl
      have c10 := D.out.hb.at 10 _ rfl
      go_wp2_with fail
      clear c0 c1 c2 c3 c4 c5 c6 c7 c8 c9 c10
      obtain ⟨W1, hW1⟩ : ∃ W, W = w104 := ⟨_, rfl⟩
      have hlq : o4.length ≤ 4000 := by omega
      have HQ := Lib.hid hlq
      go_loopg [6, 8] PZ (fun gk s6 s8 wr => ∃ (j : Nat) (A' : Option Addr) (c' : Nat) (out : List Int), gk + j = PZ ∧ s8 = .int .i64 ((j : Int) + 1) ∧ s6 = .slice A' out.length c' ∧ Hid (out = o4 ++ List.replicate j (0 : Int)) ∧ Hid (out.length ≤ 4000 + j) ∧ Hid (EState w wr [.bool true, .int .u8 ty, .int .u16 sq, .int .u32 ti, .int .u32 so, .slice Am mx.length cm, .bool false, .int .u16 0, .slice Ae 0 ce, .slice Ap pl.length cp, .int .i64 pad] A' c' out))
      case atStart => exact ⟨0, A4, c4', o4, rfl, rfl, rfl, Lib.hid (by simp), Lib.hid (by omega), D⟩
      case round =>
        clear D
        obtain ⟨j, Aj, cj', oj, hgj, rfl, rfl, HOj, HLj, D⟩ := hrel
        have hlj := HLj.out
        by_cases hltj : j < PZ
        · have hj0 : (j : Int) + 1 < pad := by have := HPZ.out; omega
          have c0 := D.out.hb.at 0 _ rfl
          have c1 := D.out.hb.at 1 _ rfl
          have c2 := D.out.hb.at 2 _ rfl
          have c3 := D.out.hb.at 3 _ rfl
          have c4 := D.out.hb.at 4 _ rfl
          have c5 := D.out.hb.at 5 _ rfl
          have c6 := D.out.hb.at 6 _ rfl
          have c7 := D.out.hb.at 7 _ rfl
          have c8 := D.out.hb.at 8 _ rfl
          have c9 := D.out.hb.at 9 _ rfl
          have c10 := D.out.hb.at 10 _ rfl
          have hws := D.out.hu.size
          go_wp2_with (at_builtin
                       go_loud (refine wpList_append_at rfl _ _ 25 rfl w.heap.size 5 1 1 (.int .u8 0) Try.underlying25 info_u8 rfl (by decide) Aj oj.length cj' (u8s oj) rfl D.out.ho [.int .u8 0] rfl (by simp [Value.oneCell']) rfl (by unfold maxLen; omega) (by omega) hws ?_)
                       intro A8 c8' w8 hown hgr hat)
          have D' := Lib.hid (D.out.grown (l := [0]) (by rw [List.length_append]; rfl) rfl hown hgr)
          go_roundg (gk - 1)
          case measure => omega
          case rel => exact ⟨j + 1, A8, c8', oj ++ [0], by omega, by go_num, by first | rfl | (rw [List.length_append]; rfl), Lib.hid (by rw [HOj.out, List.append_assoc, List.replicate_succ']), Lib.hid (by rw [List.length_append]; simp; omega), D'⟩
        · obtain rfl : j = PZ := by omega
          have hj0 : pad ≤ (j : Int) + 1 := by have := HPZ.out; omega
          have HXj := HOj
          clear HOj HLj
          have c0 := D.out.hb.at 0 _ rfl
          have c1 := D.out.hb.at 1 _ rfl
          have c2 := D.out.hb.at 2 _ rfl
          have c3 := D.out.hb.at 3 _ rfl
          have c4 := D.out.hb.at 4 _ rfl
          have c5 := D.out.hb.at 5 _ rfl
          have c6 := D.out.hb.at 6 _ rfl
          have c7 := D.out.hb.at 7 _ rfl
          have c8 := D.out.hb.at 8 _ rfl
          have c9 := D.out.hb.at 9 _ rfl
          have c10 := D.out.hb.at 10 _ rfl
          have hws := D.out.hu.size
          go_upto_region 34 with (at_builtin; go_loud (refine wpList_append_at rfl _ _ 25 rfl w.heap.size 5 1 1 (.int .u8 0) Try.underlying25 info_u8 rfl (by decide) Aj oj.length cj' (u8s oj) rfl D.out.ho [.int .u8 pad] rfl (by simp [Value.oneCell']) rfl (by unfold maxLen; omega) (by omega) hws ?_); intro A5 c5' w105 hown hgr hat)
          clear c0 c1 c2 c3 c4 c5 c6 c7 c8 c9 c10 hws
          have D' := Lib.hid (D.out.grown (l := [pad]) (by rw [List.length_append]; rfl) rfl hown hgr)
          clear D hown hgr hat
          have D := D'
          clear D'
          obtain ⟨o5, hO5⟩ : ∃ o, o = oj ++ [pad] := ⟨_, rfl⟩
          rw [← hO5] at D
          have HE5 := Lib.hid hO5
          have hq5 : oj.length + 1 = o5.length := by rw [hO5, List.length_append]; rfl
          have hl5 : o5.length ≤ oj.length + 1 := by omega
          rw [hq5]
          clear hq5 hO5
          have hfin : o5 = Pk.bytes ⟨true, ty, sq, ti, so, mx, false, 0, [], pl, pad⟩ := by
            unfold Pk.bytes Pk.lead Pk.tail
            rw [HE5.out, HXj.out, HE4.out, HX.out, HE3.out, HE2.out, HE1.out, HE0.out]
            have e1 : (pad - 1).toNat = j := by have := HPZ.out; omega
            have hn : ¬pad = 0 := by omega
            simp only [e1]
            simp [List.append_assoc, hn]
            try omega
          have HFIN := Lib.hid hfin
          clear hfin
          have c0 := D.out.hb.at 0 _ rfl
          have c1 := D.out.hb.at 1 _ rfl
          have c2 := D.out.hb.at 2 _ rfl
          have c3 := D.out.hb.at 3 _ rfl
          have c4 := D.out.hb.at 4 _ rfl
          have c5 := D.out.hb.at 5 _ rfl
          have c6 := D.out.hb.at 6 _ rfl
          have c7 := D.out.hb.at 7 _ rfl
          have c8 := D.out.hb.at 8 _ rfl
          have c9 := D.out.hb.at 9 _ rfl
          have c10 := D.out.hb.at 10 _ rfl
          go_wp2_with fail
          go_ret2
          rw [← HFIN.out]
          exact ⟨A5, c5', rfl, IntsNew.of_own D.out.ho (Nat.le_refl _), D.out.hu⟩
end Go.Proofs.Ytbpcpgmbfnmacaa
