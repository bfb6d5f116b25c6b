/- Layer 27: what the reference's Pack, Unpack and Same return, and Pack and Unpack where they refuse. -/
import Derived.Test.YtnkmpkbddpeplaaCmpPack
import Derived.Deep.QuietTactic
import Derived.BigQuiet
namespace Go.Proofs.Ytnkmpkbddpeplaa
open Go.RowKit
set_option linter.unusedVariables false

theorem Pack_no (n : Int) (A : Option Addr) (len cap : Nat) (w : World) (h1 : (n == 1) = false) (h2 : (n == 2) = false) :
    Calls Try.prog 21 #[.int .u8 n, .slice A len cap] w fun e w' => e = .returned (.tuple #[.slice none 0 0, .int .u8 2]) ∧ w = w' := by
  go_enter Try.func21, Try.ntmps21
  go_wp2_with (go_at_call 28; refine (find_no _ _ h1 h2).mono ?_; rintro e w' ⟨rfl, rfl⟩)
  go_ret2
  exact ⟨rfl, rfl⟩
theorem Pack_long (n : Int) (A : Option Addr) (len cap : Nat) (w : World) (hn : n = 1 ∨ n = 2) (h : 8000 < (len : Int)) :
    Calls Try.prog 21 #[.int .u8 n, .slice A len cap] w fun e w' => e = .returned (.tuple #[.slice none 0 0, .int .u8 4]) ∧ w = w' := by
  rcases hn with rfl | rfl
  · go_enter Try.func21, Try.ntmps21
    go_wp2_with (go_at_call 28; refine (find_mu _).mono ?_; rintro e w' ⟨rfl, rfl⟩)
    go_ret2
    exact ⟨rfl, rfl⟩
  · go_enter Try.func21, Try.ntmps21
    go_wp2_with (go_at_call 28; refine (find_a _).mono ?_; rintro e w' ⟨rfl, rfl⟩)
    go_ret2
    exact ⟨rfl, rfl⟩
theorem rPack_no (n : Int) (A : Option Addr) (len cap : Nat) (w : World) (h1 : (n != 1) = true) (h2 : (n != 2) = true) :
    Calls Try.prog 22 #[.int .u8 n, .slice A len cap] w fun e w' => e = .returned (.tuple #[.slice none 0 0, .int .u8 2]) ∧ w = w' := by
  go_enter Try.func22, Try.ntmps22
  go_wp2
  go_ret2
  exact ⟨rfl, rfl⟩
theorem rPack_long (n : Int) (A : Option Addr) (len cap : Nat) (w : World) (hn : n = 1 ∨ n = 2) (h : 8000 < (len : Int)) :
    Calls Try.prog 22 #[.int .u8 n, .slice A len cap] w fun e w' => e = .returned (.tuple #[.slice none 0 0, .int .u8 4]) ∧ w = w' := by
  rcases hn with rfl | rfl
  all_goals
    go_enter Try.func22, Try.ntmps22
    go_wp2
    go_ret2
    exact ⟨rfl, rfl⟩
theorem Unpack_no (n : Int) (A : Option Addr) (len cap : Nat) (w : World) (h1 : (n == 1) = false) (h2 : (n == 2) = false) :
    Calls Try.prog 23 #[.int .u8 n, .slice A len cap] w fun e w' => e = .returned (.tuple #[.slice none 0 0, .int .u8 2]) ∧ w = w' := by
  go_enter Try.func23, Try.ntmps23
  go_wp2_with (go_at_call 28; refine (find_no _ _ h1 h2).mono ?_; rintro e w' ⟨rfl, rfl⟩)
  go_ret2
  exact ⟨rfl, rfl⟩
theorem Unpack_long (n : Int) (A : Option Addr) (len cap : Nat) (w : World) (hn : n = 1 ∨ n = 2) (h : 8000 < (len : Int)) :
    Calls Try.prog 23 #[.int .u8 n, .slice A len cap] w fun e w' => e = .returned (.tuple #[.slice none 0 0, .int .u8 4]) ∧ w = w' := by
  rcases hn with rfl | rfl
  · go_enter Try.func23, Try.ntmps23
    go_wp2_with (go_at_call 28; refine (find_mu _).mono ?_; rintro e w' ⟨rfl, rfl⟩)
    go_ret2
    exact ⟨rfl, rfl⟩
  · go_enter Try.func23, Try.ntmps23
    go_wp2_with (go_at_call 28; refine (find_a _).mono ?_; rintro e w' ⟨rfl, rfl⟩)
    go_ret2
    exact ⟨rfl, rfl⟩
theorem rUnpack_no (n : Int) (A : Option Addr) (len cap : Nat) (w : World) (h1 : (n != 1) = true) (h2 : (n != 2) = true) :
    Calls Try.prog 24 #[.int .u8 n, .slice A len cap] w fun e w' => e = .returned (.tuple #[.slice none 0 0, .int .u8 2]) ∧ w = w' := by
  go_enter Try.func24, Try.ntmps24
  go_wp2
  go_ret2
  exact ⟨rfl, rfl⟩
theorem rUnpack_long (n : Int) (A : Option Addr) (len cap : Nat) (w : World) (hn : n = 1 ∨ n = 2) (h : 8000 < (len : Int)) :
    Calls Try.prog 24 #[.int .u8 n, .slice A len cap] w fun e w' => e = .returned (.tuple #[.slice none 0 0, .int .u8 4]) ∧ w = w' := by
  rcases hn with rfl | rfl
  all_goals
    go_enter Try.func24, Try.ntmps24
    go_wp2
    go_ret2
    exact ⟨rfl, rfl⟩
theorem take_map_succ (f : Int → Int) (zs : List Int) (k : Nat) (h : k < zs.length) : (zs.take (k + 1)).map f = (zs.take k).map f ++ [f (zs.getD k 0)] := by
  rw [List.take_succ_eq_append_getElem h, List.map_append, List.getD_eq_getElem?_getD, List.getElem?_eq_getElem h]
  rfl

set_option maxHeartbeats 400000 in
theorem rPack_mu (A : Option Addr) (zs : List Int) (cap : Nat) (w : World) (hA : IntsAt w w.heap.size .i16 A zs) (hz : Within (-32768) 32767 zs) (h8 : zs.length ≤ 8000) :
    Calls Try.prog 22 #[.int .u8 1, .slice A zs.length cap] w fun e w' => ∃ (A' : Option Addr) (c' : Nat), e = .returned (.tuple #[.slice A' zs.length c', .int .u8 0]) ∧
      IntsAt w' w'.heap.size .u8 A' (zs.map Cmp.muZ) ∧ Below w.heap.size w w' := by
  go_enter Try.func22, Try.ntmps22
  go_wp2
  go_loopw [6, 7] (fun v i wr => ∃ (k : Nat) (A' : Option Addr) (c' : Nat) (xs : List Value), k ≤ zs.length ∧ i = .int .i64 k ∧ v = .slice A' k c' ∧ Owns wr w.heap.size 5 1 A' k c' xs ∧ Hid (xs = ((zs.take k).map Cmp.muZ).map (Value.int .u8)) ∧ Below w.heap.size w wr)
    (fun _ i _ => zs.length - (intOf i).toNat)
  case atStart => exact ⟨0, none, 0, [], Nat.zero_le _, rfl, rfl, Owns.nil, rfl, Below.refl _ _⟩
  case round =>
    obtain ⟨k, A', c', xs, hk, rfl, rfl, hown, HX, hb⟩ := hrel
    by_cases hlt : k < zs.length
    · obtain ⟨b, off, rfl, hbB, hcell⟩ := hA (by omega)
      have hzk := hz.at hlt
      have hck : wr.cell? ⟨b, off + k, none⟩ = some (.int .i16 (zs.getD k 0)) := (hb.cell (p := ⟨b, off + k, none⟩) hbB).trans (hcell k hlt)
      have hbs := hb.size
      clear hcell
      generalize hzz : zs.getD k 0 = z at hck hzk
      have HZ := Lib.hid hzz
      clear hzz
      obtain ⟨hz1', hz2'⟩ := hzk
      have hi0 : (0 : Int) ≤ (k : Int) := by omega
      have hi1 : (k : Int) < (zs.length : Int) := by omega
      have HO := Lib.hid hown
      clear hown
      go_wp2_with (first
        | (go_at_call 15; refine (rMu_any _ _ (by omega) (by omega)).mono ?_; rintro e w' ⟨rfl, rfl⟩)
        | (at_builtin; refine wpList_append_one rfl _ _ 32 rfl w.heap.size 5 1 1 (.int .u8 0) Try.underlying32 info_u8 rfl (by decide) A' k c' xs rfl HO.out [.int .u8 (Cmp.muZ z)] rfl (by simp [Value.oneCell']) rfl (by unfold maxLen; omega) (by omega) (by omega) ?_; intro A2 c2 w2 hown2 hg2 hlt2))
      go_roundw
      case rel =>
        refine ⟨k + 1, A2, c2, _, by omega, by go_num, rfl, hown2, ?_, below_own hb HO.out hg2 (by omega) (Nat.le_refl _)⟩
        rw [HX.out, take_map_succ _ _ _ hlt, HZ.out, List.map_append]
        rfl
      case measure => simp [intOf]; omega
    · obtain rfl : k = zs.length := by omega
      go_wp2
      go_ret2
      refine ⟨A', c', rfl, ?_, hb⟩
      rw [HX.out, List.take_length] at hown
      exact hown.ints

theorem rFromMu_z (x : Int) (w : World) (h0 : 0 ≤ x) (h1 : x ≤ 255) :
    Calls Try.prog 17 #[.int .u8 x] w fun e w' => e = .returned (.int .i16 (Cmp.fromMuZ x)) ∧ w = w' := by
  obtain ⟨n, rfl⟩ := Int.eq_ofNat_of_zero_le h0
  exact rFromMu_any n w (by omega)
theorem FromMu_z (x : Int) (w : World) (h0 : 0 ≤ x) (h1 : x ≤ 255) :
    Calls Try.prog 10 #[.int .u8 x] w fun e w' => e = .returned (.int .i16 (Cmp.fromMuZ x)) ∧ w = w' := by
  obtain ⟨n, rfl⟩ := Int.eq_ofNat_of_zero_le h0
  exact FromMu_any n w (by omega)
set_option maxHeartbeats 400000 in
theorem rUnpack_mu (A : Option Addr) (zs : List Int) (cap : Nat) (w : World) (hA : IntsAt w w.heap.size .u8 A zs) (hz : Within (0) 255 zs) (h8 : zs.length ≤ 8000) :
    Calls Try.prog 24 #[.int .u8 1, .slice A zs.length cap] w fun e w' => ∃ (A' : Option Addr) (c' : Nat), e = .returned (.tuple #[.slice A' zs.length c', .int .u8 0]) ∧
      IntsAt w' w'.heap.size .i16 A' (zs.map Cmp.fromMuZ) ∧ Below w.heap.size w w' := by
  go_enter Try.func24, Try.ntmps24
  go_wp2
  go_loopw [6, 7] (fun v i wr => ∃ (k : Nat) (A' : Option Addr) (c' : Nat) (xs : List Value), k ≤ zs.length ∧ i = .int .i64 k ∧ v = .slice A' k c' ∧ Owns wr w.heap.size 22 1 A' k c' xs ∧ Hid (xs = ((zs.take k).map Cmp.fromMuZ).map (Value.int .i16)) ∧ Below w.heap.size w wr)
    (fun _ i _ => zs.length - (intOf i).toNat)
  case atStart => exact ⟨0, none, 0, [], Nat.zero_le _, rfl, rfl, Owns.nil, rfl, Below.refl _ _⟩
  case round =>
    obtain ⟨k, A', c', xs, hk, rfl, rfl, hown, HX, hb⟩ := hrel
    by_cases hlt : k < zs.length
    · obtain ⟨b, off, rfl, hbB, hcell⟩ := hA (by omega)
      have hzk := hz.at hlt
      have hck : wr.cell? ⟨b, off + k, none⟩ = some (.int .u8 (zs.getD k 0)) := (hb.cell (p := ⟨b, off + k, none⟩) hbB).trans (hcell k hlt)
      have hbs := hb.size
      clear hcell
      generalize hzz : zs.getD k 0 = z at hck hzk
      have HZ := Lib.hid hzz
      clear hzz
      obtain ⟨hz1', hz2'⟩ := hzk
      have hi0 : (0 : Int) ≤ (k : Int) := by omega
      have hi1 : (k : Int) < (zs.length : Int) := by omega
      have HO := Lib.hid hown
      clear hown
      go_wp2_with (first
        | (go_at_call 17; refine (rFromMu_z _ _ (by omega) (by omega)).mono ?_; rintro e w' ⟨rfl, rfl⟩)
        | (at_builtin; refine wpList_append_one rfl _ _ 31 rfl w.heap.size 22 1 2 (.int .i16 0) Try.underlying31 info_i16 rfl (by decide) A' k c' xs rfl HO.out [.int .i16 (Cmp.fromMuZ z)] rfl (by simp [Value.oneCell']) rfl (by unfold maxLen; omega) (by omega) (by omega) ?_; intro A2 c2 w2 hown2 hg2 hlt2))
      go_roundw
      case rel =>
        refine ⟨k + 1, A2, c2, _, by omega, by go_num, rfl, hown2, ?_, below_own hb HO.out hg2 (by omega) (Nat.le_refl _)⟩
        rw [HX.out, take_map_succ _ _ _ hlt, HZ.out, List.map_append]
        rfl
      case measure => simp [intOf]; omega
    · obtain rfl : k = zs.length := by omega
      go_wp2
      go_ret2
      refine ⟨A', c', rfl, ?_, hb⟩
      rw [HX.out, List.take_length] at hown
      exact hown.ints

set_option maxHeartbeats 400000 in
theorem rPack_a (A : Option Addr) (zs : List Int) (cap : Nat) (w : World) (hA : IntsAt w w.heap.size .i16 A zs) (hz : Within (-32768) 32767 zs) (h8 : zs.length ≤ 8000) :
    Calls Try.prog 22 #[.int .u8 2, .slice A zs.length cap] w fun e w' => ∃ (A' : Option Addr) (c' : Nat), e = .returned (.tuple #[.slice A' zs.length c', .int .u8 0]) ∧
      IntsAt w' w'.heap.size .u8 A' (zs.map Cmp.aZ) ∧ Below w.heap.size w w' := by
  go_enter Try.func22, Try.ntmps22
  go_wp2
  go_loopw [6, 7] (fun v i wr => ∃ (k : Nat) (A' : Option Addr) (c' : Nat) (xs : List Value), k ≤ zs.length ∧ i = .int .i64 k ∧ v = .slice A' k c' ∧ Owns wr w.heap.size 5 1 A' k c' xs ∧ Hid (xs = ((zs.take k).map Cmp.aZ).map (Value.int .u8)) ∧ Below w.heap.size w wr)
    (fun _ i _ => zs.length - (intOf i).toNat)
  case atStart => exact ⟨0, none, 0, [], Nat.zero_le _, rfl, rfl, Owns.nil, rfl, Below.refl _ _⟩
  case round =>
    obtain ⟨k, A', c', xs, hk, rfl, rfl, hown, HX, hb⟩ := hrel
    by_cases hlt : k < zs.length
    · obtain ⟨b, off, rfl, hbB, hcell⟩ := hA (by omega)
      have hzk := hz.at hlt
      have hck : wr.cell? ⟨b, off + k, none⟩ = some (.int .i16 (zs.getD k 0)) := (hb.cell (p := ⟨b, off + k, none⟩) hbB).trans (hcell k hlt)
      have hbs := hb.size
      clear hcell
      generalize hzz : zs.getD k 0 = z at hck hzk
      have HZ := Lib.hid hzz
      clear hzz
      obtain ⟨hz1', hz2'⟩ := hzk
      have hi0 : (0 : Int) ≤ (k : Int) := by omega
      have hi1 : (k : Int) < (zs.length : Int) := by omega
      have HO := Lib.hid hown
      clear hown
      go_wp2_with (first
        | (go_at_call 16; refine (rA_any _ _ (by omega) (by omega)).mono ?_; rintro e w' ⟨rfl, rfl⟩)
        | (at_builtin; refine wpList_append_one rfl _ _ 32 rfl w.heap.size 5 1 1 (.int .u8 0) Try.underlying32 info_u8 rfl (by decide) A' k c' xs rfl HO.out [.int .u8 (Cmp.aZ z)] rfl (by simp [Value.oneCell']) rfl (by unfold maxLen; omega) (by omega) (by omega) ?_; intro A2 c2 w2 hown2 hg2 hlt2))
      go_roundw
      case rel =>
        refine ⟨k + 1, A2, c2, _, by omega, by go_num, rfl, hown2, ?_, below_own hb HO.out hg2 (by omega) (Nat.le_refl _)⟩
        rw [HX.out, take_map_succ _ _ _ hlt, HZ.out, List.map_append]
        rfl
      case measure => simp [intOf]; omega
    · obtain rfl : k = zs.length := by omega
      go_wp2
      go_ret2
      refine ⟨A', c', rfl, ?_, hb⟩
      rw [HX.out, List.take_length] at hown
      exact hown.ints

theorem rFromA_z (x : Int) (w : World) (h0 : 0 ≤ x) (h1 : x ≤ 255) :
    Calls Try.prog 18 #[.int .u8 x] w fun e w' => e = .returned (.int .i16 (Cmp.fromAZ x)) ∧ w = w' := by
  obtain ⟨n, rfl⟩ := Int.eq_ofNat_of_zero_le h0
  exact rFromA_any n w (by omega)
theorem FromA_z (x : Int) (w : World) (h0 : 0 ≤ x) (h1 : x ≤ 255) :
    Calls Try.prog 12 #[.int .u8 x] w fun e w' => e = .returned (.int .i16 (Cmp.fromAZ x)) ∧ w = w' := by
  obtain ⟨n, rfl⟩ := Int.eq_ofNat_of_zero_le h0
  exact FromA_any n w (by omega)
set_option maxHeartbeats 400000 in
theorem rUnpack_a (A : Option Addr) (zs : List Int) (cap : Nat) (w : World) (hA : IntsAt w w.heap.size .u8 A zs) (hz : Within (0) 255 zs) (h8 : zs.length ≤ 8000) :
    Calls Try.prog 24 #[.int .u8 2, .slice A zs.length cap] w fun e w' => ∃ (A' : Option Addr) (c' : Nat), e = .returned (.tuple #[.slice A' zs.length c', .int .u8 0]) ∧
      IntsAt w' w'.heap.size .i16 A' (zs.map Cmp.fromAZ) ∧ Below w.heap.size w w' := by
  go_enter Try.func24, Try.ntmps24
  go_wp2
  go_loopw [6, 7] (fun v i wr => ∃ (k : Nat) (A' : Option Addr) (c' : Nat) (xs : List Value), k ≤ zs.length ∧ i = .int .i64 k ∧ v = .slice A' k c' ∧ Owns wr w.heap.size 22 1 A' k c' xs ∧ Hid (xs = ((zs.take k).map Cmp.fromAZ).map (Value.int .i16)) ∧ Below w.heap.size w wr)
    (fun _ i _ => zs.length - (intOf i).toNat)
  case atStart => exact ⟨0, none, 0, [], Nat.zero_le _, rfl, rfl, Owns.nil, rfl, Below.refl _ _⟩
  case round =>
    obtain ⟨k, A', c', xs, hk, rfl, rfl, hown, HX, hb⟩ := hrel
    by_cases hlt : k < zs.length
    · obtain ⟨b, off, rfl, hbB, hcell⟩ := hA (by omega)
      have hzk := hz.at hlt
      have hck : wr.cell? ⟨b, off + k, none⟩ = some (.int .u8 (zs.getD k 0)) := (hb.cell (p := ⟨b, off + k, none⟩) hbB).trans (hcell k hlt)
      have hbs := hb.size
      clear hcell
      generalize hzz : zs.getD k 0 = z at hck hzk
      have HZ := Lib.hid hzz
      clear hzz
      obtain ⟨hz1', hz2'⟩ := hzk
      have hi0 : (0 : Int) ≤ (k : Int) := by omega
      have hi1 : (k : Int) < (zs.length : Int) := by omega
      have HO := Lib.hid hown
      clear hown
      go_wp2_with (first
        | (go_at_call 18; refine (rFromA_z _ _ (by omega) (by omega)).mono ?_; rintro e w' ⟨rfl, rfl⟩)
        | (at_builtin; refine wpList_append_one rfl _ _ 31 rfl w.heap.size 22 1 2 (.int .i16 0) Try.underlying31 info_i16 rfl (by decide) A' k c' xs rfl HO.out [.int .i16 (Cmp.fromAZ z)] rfl (by simp [Value.oneCell']) rfl (by unfold maxLen; omega) (by omega) (by omega) ?_; intro A2 c2 w2 hown2 hg2 hlt2))
      go_roundw
      case rel =>
        refine ⟨k + 1, A2, c2, _, by omega, by go_num, rfl, hown2, ?_, below_own hb HO.out hg2 (by omega) (Nat.le_refl _)⟩
        rw [HX.out, take_map_succ _ _ _ hlt, HZ.out, List.map_append]
        rfl
      case measure => simp [intOf]; omega
    · obtain rfl : k = zs.length := by omega
      go_wp2
      go_ret2
      refine ⟨A', c', rfl, ?_, hb⟩
      rw [HX.out, List.take_length] at hown
      exact hown.ints
end Go.Proofs.Ytnkmpkbddpeplaa
