/- Layer 27: the reference's Same, Exponent and size, MuToA and AToMu, and the examples (lives). -/
import Derived.Test.YtnkmpkbddpeplaaCmpRefPack
namespace Go.Proofs.Ytnkmpkbddpeplaa
open Go.RowKit
set_option linter.unusedVariables false

set_option maxHeartbeats 400000 in
theorem same27 (A B : Option Addr) (zs : List Int) (c d : Nat) (w : World) (hA : IntsAt w w.heap.size .i16 A zs) (hB : IntsAt w w.heap.size .i16 B zs) (h63 : zs.length ≤ 140737488355328) :
    Calls Try.prog 25 #[.slice A zs.length c, .slice B zs.length d] w fun e w' => e = .returned (.bool true) ∧ Below w.heap.size w w' := by
  go_enter Try.func25, Try.ntmps25
  go_wp2
  go_loopw [5] (fun i wr => ∃ k : Nat, k ≤ zs.length ∧ i = .int .i64 k ∧ Below w.heap.size w wr) (fun i _ => zs.length - (intOf i).toNat)
  case atStart => exact ⟨0, Nat.zero_le _, rfl, Below.refl _ _⟩
  case round =>
    obtain ⟨k, hk, rfl, hb⟩ := hrel
    by_cases hlt : k < zs.length
    · obtain ⟨b, off, rfl, hbB, hcell⟩ := hA (by omega)
      obtain ⟨b2, off2, rfl, hbB2, hcell2⟩ := hB (by omega)
      have hck : wr.cell? ⟨b, off + k, none⟩ = some (.int .i16 (zs.getD k 0)) := (hb.cell (p := ⟨b, off + k, none⟩) hbB).trans (hcell k hlt)
      have hck2 : wr.cell? ⟨b2, off2 + k, none⟩ = some (.int .i16 (zs.getD k 0)) := (hb.cell (p := ⟨b2, off2 + k, none⟩) hbB2).trans (hcell2 k hlt)
      clear hcell hcell2
      generalize zs.getD k 0 = z at hck hck2
      have hi0 : (0 : Int) ≤ (k : Int) := by omega
      have hi1 : (k : Int) < (zs.length : Int) := by omega
      go_wp2
      go_quiet (fail)
      go_wp2
      go_roundw
      case rel => exact ⟨k + 1, by omega, by go_num, below_drewN hb _⟩
      case measure => simp [intOf]; omega
    · go_wp2
      go_ret
      exact ⟨rfl, hb⟩
theorem size27 (n : Int) (w : World) (h0 : -1099511627776 ≤ n) (h1 : n ≤ 1099511627776) :
    Calls Try.prog 9 #[.int .i64 n] w fun e w' => e = .returned (.int .i64 (n.natAbs : Int)) ∧ w = w' := by
  by_cases hn : n < 0
  all_goals
    go_enter Try.func9, Try.ntmps9
    go_wp2
    go_ret
    exact ⟨ret_int (by omega), rfl⟩
/-- the e of a sample's code -/
def expMu (x : Int) : Int := ((Cmp.expo (Cmp.magMu x) : Nat) : Int)
def expA (x : Int) : Int := ((Cmp.expo (Cmp.magA x) : Nat) : Int)
theorem expMu_bd (x : Int) : 0 ≤ expMu x ∧ expMu x ≤ 7 := by have := Cmp.expo_le (Cmp.magMu x); unfold expMu; omega
theorem expA_bd (x : Int) : 0 ≤ expA x ∧ expA x ≤ 7 := by have := Cmp.expo_le (Cmp.magA x); unfold expA; omega
theorem expMu_eq (x : Int) : (255 - (Cmp.mu x : Int)) / 16 % 8 = expMu x := by
  have h7 := Cmp.expo_le (Cmp.magMu x)
  unfold expMu Cmp.mu Cmp.muRaw
  have h16 : Cmp.magMu x / 2 ^ (Cmp.expo (Cmp.magMu x) + 3) % 16 < 16 := Nat.mod_lt _ (by omega)
  generalize Cmp.magMu x / 2 ^ (Cmp.expo (Cmp.magMu x) + 3) % 16 = q at h16 ⊢
  split <;> omega
theorem xor_xor (c : Nat) : c ^^^ 85 ^^^ 85 = c := by rw [Nat.xor_assoc, Nat.xor_self, Nat.xor_zero]
theorem expA_eq (x : Int) : bits .xor .u8 (Cmp.aCode x : Int) 85 / 16 % 8 = expA x := by
  rw [Cmp.xor_u8 _ (Cmp.aCode_lt x)]
  unfold Cmp.aCode
  rw [xor_xor]
  have h7 := Cmp.expo_le (Cmp.magA x)
  unfold expA Cmp.aRaw
  have h16 : Cmp.magA x / 2 ^ (if Cmp.expo (Cmp.magA x) = 0 then 4 else Cmp.expo (Cmp.magA x) + 3) % 16 < 16 := Nat.mod_lt _ (by omega)
  generalize Cmp.magA x / 2 ^ (if Cmp.expo (Cmp.magA x) = 0 then 4 else Cmp.expo (Cmp.magA x) + 3) % 16 = q at h16 ⊢
  split <;> omega
set_option maxHeartbeats 400000 in
theorem exponent_mu (x : Int) (w : World) (h0 : -32768 ≤ x) (h1 : x ≤ 32767) :
    Calls Try.prog 8 #[.int .u8 1, .int .i16 x] w fun e w' => e = .returned (.int .i64 (expMu x)) ∧ w = w' := by
  have hm := Cmp.mu_lt x
  have hm' : (0 : Int) ≤ (Cmp.mu x : Int) ∧ (Cmp.mu x : Int) ≤ 255 := by omega
  obtain ⟨hm1, hm2⟩ := hm'
  go_enter Try.func8, Try.ntmps8
  go_wp2_with (go_at_call 15; refine (rMu_any _ _ (by omega) (by omega)).mono ?_; rintro e w' ⟨rfl, rfl⟩)
  go_ret
  exact ⟨ret_int (expMu_eq x), rfl⟩
set_option maxHeartbeats 400000 in
theorem exponent_a (x : Int) (w : World) (h0 : -32768 ≤ x) (h1 : x ≤ 32767) :
    Calls Try.prog 8 #[.int .u8 2, .int .i16 x] w fun e w' => e = .returned (.int .i64 (expA x)) ∧ w = w' := by
  have hb : 0 ≤ bits .xor .u8 (Cmp.aCode x : Int) 85 ∧ bits .xor .u8 (Cmp.aCode x : Int) 85 ≤ 255 := by
    rw [Cmp.xor_u8 _ (Cmp.aCode_lt x)]
    have := Nat.xor_lt_two_pow (n := 8) (Cmp.aCode_lt x) (show 85 < 2 ^ 8 by omega)
    omega
  obtain ⟨hb1, hb2⟩ := hb
  go_enter Try.func8, Try.ntmps8
  go_wp2_with (go_at_call 16; refine (rA_any _ _ (by omega) (by omega)).mono ?_; rintro e w' ⟨rfl, rfl⟩)
  go_ret
  exact ⟨ret_int (expA_eq x), rfl⟩
theorem muToA (b : Nat) (w : World) (h0 : b < 256) :
    Calls Try.prog 19 #[.int .u8 b] w fun e w' => e = .returned (.int .u8 (Cmp.aCode (Cmp.fromMu b))) ∧ w = w' := by
  have h := Cmp.fromMu_bd b h0
  go_enter Try.func19, Try.ntmps19
  go_wp2_with (first
    | (go_at_call 10; refine (FromMu_any _ _ h0).mono ?_; rintro e w' ⟨rfl, rfl⟩)
    | (go_at_call 13; refine (A_any _ _ (by omega) (by omega)).mono ?_; rintro e w' ⟨rfl, rfl⟩))
  go_ret
  exact ⟨rfl, rfl⟩
theorem aToMu (b : Nat) (w : World) (h0 : b < 256) :
    Calls Try.prog 20 #[.int .u8 b] w fun e w' => e = .returned (.int .u8 (Cmp.mu (Cmp.fromA b))) ∧ w = w' := by
  have h := Cmp.fromA_bd b h0
  go_enter Try.func20, Try.ntmps20
  go_wp2_with (first
    | (go_at_call 12; refine (FromA_any _ _ h0).mono ?_; rintro e w' ⟨rfl, rfl⟩)
    | (go_at_call 11; refine (Mu_any _ _ (by omega) (by omega)).mono ?_; rintro e w' ⟨rfl, rfl⟩))
  go_ret
  exact ⟨rfl, rfl⟩
theorem kn_mu1000 : Cmp.mu 1000 = 206 := by decide +kernel
theorem kn_fromMu206 : Cmp.fromMu 206 = 988 := by decide +kernel
theorem kn_a1000 : Cmp.aCode 1000 = 250 := by decide +kernel
theorem kn_fromA250 : Cmp.fromA 250 = 1008 := by decide +kernel
set_option maxHeartbeats 400000 in
theorem lives27 (w : World) : Calls Try.prog 14 #[] w fun e w' => e = .returned (.bool true) ∧ Below w.heap.size w w' := by
  have c1 := kn_mu1000
  have c2 := kn_fromMu206
  have c3 := kn_a1000
  have c4 := kn_fromA250
  go_enter Try.func14, Try.ntmps14
  go_wp2_with (first
    | (go_at_call 21; refine (Pack_no _ _ _ _ _ (by decide) (by decide)).mono ?_; rintro e w' ⟨rfl, rfl⟩)
    | (go_at_call 11; refine (Mu_any 1000 _ (by omega) (by omega)).mono ?_; rintro e w' ⟨rfl, rfl⟩)
    | (go_at_call 10; refine (FromMu_any 206 _ (by omega)).mono ?_; rintro e w' ⟨rfl, rfl⟩)
    | (go_at_call 13; refine (A_any 1000 _ (by omega) (by omega)).mono ?_; rintro e w' ⟨rfl, rfl⟩)
    | (go_at_call 12; refine (FromA_any 250 _ (by omega)).mono ?_; rintro e w' ⟨rfl, rfl⟩))
  go_ret
  exact ⟨rfl, by (repeat (first | exact Below.refl _ _ | refine Below.alloc ?_ (by simp) _))⟩

/-- what Pack and Unpack return, whatever the law and the slice -/
def packOut (n : Int) (zs : List Int) : List Int := if n = 1 ∧ zs.length ≤ 8000 then zs.map Cmp.muZ else if n = 2 ∧ zs.length ≤ 8000 then zs.map Cmp.aZ else []
def unpackOut (n : Int) (zs : List Int) : List Int := if n = 1 ∧ zs.length ≤ 8000 then zs.map Cmp.fromMuZ else if n = 2 ∧ zs.length ≤ 8000 then zs.map Cmp.fromAZ else []
def packErr (n : Int) (len : Nat) : Int := if n ≠ 1 ∧ n ≠ 2 then 2 else if 8000 < len then 4 else 0
theorem packOut_len (n : Int) (zs : List Int) : (packOut n zs).length ≤ 8000 := by
  unfold packOut; (repeat' split) <;> simp_all
theorem unpackOut_len (n : Int) (zs : List Int) : (unpackOut n zs).length ≤ 8000 := by
  unfold unpackOut; (repeat' split) <;> simp_all
theorem muZ_bd (x : Int) : 0 ≤ Cmp.muZ x ∧ Cmp.muZ x ≤ 255 := by have := Cmp.mu_lt x; unfold Cmp.muZ; omega
theorem aZ_bd (x : Int) : 0 ≤ Cmp.aZ x ∧ Cmp.aZ x ≤ 255 := by have := Cmp.aCode_lt x; unfold Cmp.aZ; omega
theorem fromMuZ_bd (x : Int) (h0 : 0 ≤ x) (h1 : x ≤ 255) : -32768 ≤ Cmp.fromMuZ x ∧ Cmp.fromMuZ x ≤ 32767 := by have := Cmp.fromMu_bd x.toNat (by omega); unfold Cmp.fromMuZ; omega
theorem fromAZ_bd (x : Int) (h0 : 0 ≤ x) (h1 : x ≤ 255) : -32768 ≤ Cmp.fromAZ x ∧ Cmp.fromAZ x ≤ 32767 := by have := Cmp.fromA_bd x.toNat (by omega); unfold Cmp.fromAZ; omega
theorem within_map {lo hi lo' hi' : Int} {f : Int → Int} {zs : List Int} (h : Within lo hi zs) (hf : ∀ x, lo ≤ x → x ≤ hi → lo' ≤ f x ∧ f x ≤ hi') : Within lo' hi' (zs.map f) := fun z hz => by
  obtain ⟨x, hx, rfl⟩ := List.mem_map.1 hz
  exact hf x (h x hx).1 (h x hx).2
theorem packOut_in (n : Int) (zs : List Int) : Within 0 255 (packOut n zs) := by
  unfold packOut
  split
  · exact fun z hz => by obtain ⟨x, _, rfl⟩ := List.mem_map.1 hz; exact muZ_bd x
  · split
    · exact fun z hz => by obtain ⟨x, _, rfl⟩ := List.mem_map.1 hz; exact aZ_bd x
    · exact Within.nil _ _
theorem unpackOut_in (n : Int) (zs : List Int) (h : Within 0 255 zs) : Within (-32768) 32767 (unpackOut n zs) := by
  unfold unpackOut
  split
  · exact within_map h fromMuZ_bd
  · split
    · exact within_map h fromAZ_bd
    · exact Within.nil _ _
theorem neq_bools (n : Int) (h1 : n ≠ 1) (h2 : n ≠ 2) : (n == 1) = false ∧ (n == 2) = false ∧ (n != 1) = true ∧ (n != 2) = true := by simp [h1, h2]

theorem Pack_all (n : Int) (A : Option Addr) (zs : List Int) (cap : Nat) (w : World) (hA : IntsAt w w.heap.size .i16 A zs) (hz : Within (-32768) 32767 zs) :
    Calls Try.prog 21 #[.int .u8 n, .slice A zs.length cap] w fun e w' => ∃ (A' : Option Addr) (c' : Nat), e = .returned (.tuple #[.slice A' (packOut n zs).length c', .int .u8 (packErr n zs.length)]) ∧
      IntsAt w' w'.heap.size .u8 A' (packOut n zs) ∧ Below w.heap.size w w' := by
  by_cases h1 : n = 1
  · subst h1
    by_cases h8 : zs.length ≤ 8000
    · refine (Pack_mu A zs cap w hA hz h8).mono ?_
      rintro e w' ⟨A', rfl, h, hb⟩
      have e1 : packOut 1 zs = zs.map Cmp.muZ := by unfold packOut; rw [if_pos ⟨rfl, h8⟩]
      have e2 : packErr 1 zs.length = 0 := by unfold packErr; rw [if_neg (by simp), if_neg (by omega)]
      rw [e1, e2, List.length_map]
      exact ⟨A', zs.length, rfl, h, hb⟩
    · refine (Pack_long 1 A zs.length cap w (.inl rfl) (by omega)).mono ?_
      rintro e w' ⟨rfl, rfl⟩
      have e1 : packOut 1 zs = [] := by unfold packOut; rw [if_neg (by omega), if_neg (by omega)]
      have e2 : packErr 1 zs.length = 4 := by unfold packErr; rw [if_neg (by simp), if_pos (by omega)]
      rw [e1, e2]
      exact ⟨none, 0, rfl, IntsAt.nil, Below.refl _ _⟩
  · by_cases h2 : n = 2
    · subst h2
      by_cases h8 : zs.length ≤ 8000
      · refine (Pack_a A zs cap w hA hz h8).mono ?_
        rintro e w' ⟨A', rfl, h, hb⟩
        have e1 : packOut 2 zs = zs.map Cmp.aZ := by unfold packOut; rw [if_neg (by omega), if_pos ⟨rfl, h8⟩]
        have e2 : packErr 2 zs.length = 0 := by unfold packErr; rw [if_neg (by simp), if_neg (by omega)]
        rw [e1, e2, List.length_map]
        exact ⟨A', zs.length, rfl, h, hb⟩
      · refine (Pack_long 2 A zs.length cap w (.inr rfl) (by omega)).mono ?_
        rintro e w' ⟨rfl, rfl⟩
        have e1 : packOut 2 zs = [] := by unfold packOut; rw [if_neg (by omega), if_neg (by omega)]
        have e2 : packErr 2 zs.length = 4 := by unfold packErr; rw [if_neg (by simp), if_pos (by omega)]
        rw [e1, e2]
        exact ⟨none, 0, rfl, IntsAt.nil, Below.refl _ _⟩
    · obtain ⟨hn1, hn2, hn3, hn4⟩ := neq_bools n h1 h2
      refine (Pack_no n A zs.length cap w hn1 hn2).mono ?_
      rintro e w' ⟨rfl, rfl⟩
      have e1 : packOut n zs = [] := by unfold packOut; rw [if_neg (by omega), if_neg (by omega)]
      have e2 : packErr n zs.length = 2 := by unfold packErr; rw [if_pos ⟨h1, h2⟩]
      rw [e1, e2]
      exact ⟨none, 0, rfl, IntsAt.nil, Below.refl _ _⟩

theorem rPack_all (n : Int) (A : Option Addr) (zs : List Int) (cap : Nat) (w : World) (hA : IntsAt w w.heap.size .i16 A zs) (hz : Within (-32768) 32767 zs) :
    Calls Try.prog 22 #[.int .u8 n, .slice A zs.length cap] w fun e w' => ∃ (A' : Option Addr) (c' : Nat), e = .returned (.tuple #[.slice A' (packOut n zs).length c', .int .u8 (packErr n zs.length)]) ∧
      IntsAt w' w'.heap.size .u8 A' (packOut n zs) ∧ Below w.heap.size w w' := by
  by_cases h1 : n = 1
  · subst h1
    by_cases h8 : zs.length ≤ 8000
    · refine (rPack_mu A zs cap w hA hz h8).mono ?_
      rintro e w' ⟨A', c', rfl, h, hb⟩
      have e1 : packOut 1 zs = zs.map Cmp.muZ := by unfold packOut; rw [if_pos ⟨rfl, h8⟩]
      have e2 : packErr 1 zs.length = 0 := by unfold packErr; rw [if_neg (by simp), if_neg (by omega)]
      rw [e1, e2, List.length_map]
      exact ⟨A', c', rfl, h, hb⟩
    · refine (rPack_long 1 A zs.length cap w (.inl rfl) (by omega)).mono ?_
      rintro e w' ⟨rfl, rfl⟩
      have e1 : packOut 1 zs = [] := by unfold packOut; rw [if_neg (by omega), if_neg (by omega)]
      have e2 : packErr 1 zs.length = 4 := by unfold packErr; rw [if_neg (by simp), if_pos (by omega)]
      rw [e1, e2]
      exact ⟨none, 0, rfl, IntsAt.nil, Below.refl _ _⟩
  · by_cases h2 : n = 2
    · subst h2
      by_cases h8 : zs.length ≤ 8000
      · refine (rPack_a A zs cap w hA hz h8).mono ?_
        rintro e w' ⟨A', c', rfl, h, hb⟩
        have e1 : packOut 2 zs = zs.map Cmp.aZ := by unfold packOut; rw [if_neg (by omega), if_pos ⟨rfl, h8⟩]
        have e2 : packErr 2 zs.length = 0 := by unfold packErr; rw [if_neg (by simp), if_neg (by omega)]
        rw [e1, e2, List.length_map]
        exact ⟨A', c', rfl, h, hb⟩
      · refine (rPack_long 2 A zs.length cap w (.inr rfl) (by omega)).mono ?_
        rintro e w' ⟨rfl, rfl⟩
        have e1 : packOut 2 zs = [] := by unfold packOut; rw [if_neg (by omega), if_neg (by omega)]
        have e2 : packErr 2 zs.length = 4 := by unfold packErr; rw [if_neg (by simp), if_pos (by omega)]
        rw [e1, e2]
        exact ⟨none, 0, rfl, IntsAt.nil, Below.refl _ _⟩
    · obtain ⟨hn1, hn2, hn3, hn4⟩ := neq_bools n h1 h2
      refine (rPack_no n A zs.length cap w hn3 hn4).mono ?_
      rintro e w' ⟨rfl, rfl⟩
      have e1 : packOut n zs = [] := by unfold packOut; rw [if_neg (by omega), if_neg (by omega)]
      have e2 : packErr n zs.length = 2 := by unfold packErr; rw [if_pos ⟨h1, h2⟩]
      rw [e1, e2]
      exact ⟨none, 0, rfl, IntsAt.nil, Below.refl _ _⟩

theorem Unpack_all (n : Int) (A : Option Addr) (zs : List Int) (cap : Nat) (w : World) (hA : IntsAt w w.heap.size .u8 A zs) (hz : Within (0) 255 zs) :
    Calls Try.prog 23 #[.int .u8 n, .slice A zs.length cap] w fun e w' => ∃ (A' : Option Addr) (c' : Nat), e = .returned (.tuple #[.slice A' (unpackOut n zs).length c', .int .u8 (packErr n zs.length)]) ∧
      IntsAt w' w'.heap.size .i16 A' (unpackOut n zs) ∧ Below w.heap.size w w' := by
  by_cases h1 : n = 1
  · subst h1
    by_cases h8 : zs.length ≤ 8000
    · refine (Unpack_mu A zs cap w hA hz h8).mono ?_
      rintro e w' ⟨A', rfl, h, hb⟩
      have e1 : unpackOut 1 zs = zs.map Cmp.fromMuZ := by unfold unpackOut; rw [if_pos ⟨rfl, h8⟩]
      have e2 : packErr 1 zs.length = 0 := by unfold packErr; rw [if_neg (by simp), if_neg (by omega)]
      rw [e1, e2, List.length_map]
      exact ⟨A', zs.length, rfl, h, hb⟩
    · refine (Unpack_long 1 A zs.length cap w (.inl rfl) (by omega)).mono ?_
      rintro e w' ⟨rfl, rfl⟩
      have e1 : unpackOut 1 zs = [] := by unfold unpackOut; rw [if_neg (by omega), if_neg (by omega)]
      have e2 : packErr 1 zs.length = 4 := by unfold packErr; rw [if_neg (by simp), if_pos (by omega)]
      rw [e1, e2]
      exact ⟨none, 0, rfl, IntsAt.nil, Below.refl _ _⟩
  · by_cases h2 : n = 2
    · subst h2
      by_cases h8 : zs.length ≤ 8000
      · refine (Unpack_a A zs cap w hA hz h8).mono ?_
        rintro e w' ⟨A', rfl, h, hb⟩
        have e1 : unpackOut 2 zs = zs.map Cmp.fromAZ := by unfold unpackOut; rw [if_neg (by omega), if_pos ⟨rfl, h8⟩]
        have e2 : packErr 2 zs.length = 0 := by unfold packErr; rw [if_neg (by simp), if_neg (by omega)]
        rw [e1, e2, List.length_map]
        exact ⟨A', zs.length, rfl, h, hb⟩
      · refine (Unpack_long 2 A zs.length cap w (.inr rfl) (by omega)).mono ?_
        rintro e w' ⟨rfl, rfl⟩
        have e1 : unpackOut 2 zs = [] := by unfold unpackOut; rw [if_neg (by omega), if_neg (by omega)]
        have e2 : packErr 2 zs.length = 4 := by unfold packErr; rw [if_neg (by simp), if_pos (by omega)]
        rw [e1, e2]
        exact ⟨none, 0, rfl, IntsAt.nil, Below.refl _ _⟩
    · obtain ⟨hn1, hn2, hn3, hn4⟩ := neq_bools n h1 h2
      refine (Unpack_no n A zs.length cap w hn1 hn2).mono ?_
      rintro e w' ⟨rfl, rfl⟩
      have e1 : unpackOut n zs = [] := by unfold unpackOut; rw [if_neg (by omega), if_neg (by omega)]
      have e2 : packErr n zs.length = 2 := by unfold packErr; rw [if_pos ⟨h1, h2⟩]
      rw [e1, e2]
      exact ⟨none, 0, rfl, IntsAt.nil, Below.refl _ _⟩

theorem rUnpack_all (n : Int) (A : Option Addr) (zs : List Int) (cap : Nat) (w : World) (hA : IntsAt w w.heap.size .u8 A zs) (hz : Within (0) 255 zs) :
    Calls Try.prog 24 #[.int .u8 n, .slice A zs.length cap] w fun e w' => ∃ (A' : Option Addr) (c' : Nat), e = .returned (.tuple #[.slice A' (unpackOut n zs).length c', .int .u8 (packErr n zs.length)]) ∧
      IntsAt w' w'.heap.size .i16 A' (unpackOut n zs) ∧ Below w.heap.size w w' := by
  by_cases h1 : n = 1
  · subst h1
    by_cases h8 : zs.length ≤ 8000
    · refine (rUnpack_mu A zs cap w hA hz h8).mono ?_
      rintro e w' ⟨A', c', rfl, h, hb⟩
      have e1 : unpackOut 1 zs = zs.map Cmp.fromMuZ := by unfold unpackOut; rw [if_pos ⟨rfl, h8⟩]
      have e2 : packErr 1 zs.length = 0 := by unfold packErr; rw [if_neg (by simp), if_neg (by omega)]
      rw [e1, e2, List.length_map]
      exact ⟨A', c', rfl, h, hb⟩
    · refine (rUnpack_long 1 A zs.length cap w (.inl rfl) (by omega)).mono ?_
      rintro e w' ⟨rfl, rfl⟩
      have e1 : unpackOut 1 zs = [] := by unfold unpackOut; rw [if_neg (by omega), if_neg (by omega)]
      have e2 : packErr 1 zs.length = 4 := by unfold packErr; rw [if_neg (by simp), if_pos (by omega)]
      rw [e1, e2]
      exact ⟨none, 0, rfl, IntsAt.nil, Below.refl _ _⟩
  · by_cases h2 : n = 2
    · subst h2
      by_cases h8 : zs.length ≤ 8000
      · refine (rUnpack_a A zs cap w hA hz h8).mono ?_
        rintro e w' ⟨A', c', rfl, h, hb⟩
        have e1 : unpackOut 2 zs = zs.map Cmp.fromAZ := by unfold unpackOut; rw [if_neg (by omega), if_pos ⟨rfl, h8⟩]
        have e2 : packErr 2 zs.length = 0 := by unfold packErr; rw [if_neg (by simp), if_neg (by omega)]
        rw [e1, e2, List.length_map]
        exact ⟨A', c', rfl, h, hb⟩
      · refine (rUnpack_long 2 A zs.length cap w (.inr rfl) (by omega)).mono ?_
        rintro e w' ⟨rfl, rfl⟩
        have e1 : unpackOut 2 zs = [] := by unfold unpackOut; rw [if_neg (by omega), if_neg (by omega)]
        have e2 : packErr 2 zs.length = 4 := by unfold packErr; rw [if_neg (by simp), if_pos (by omega)]
        rw [e1, e2]
        exact ⟨none, 0, rfl, IntsAt.nil, Below.refl _ _⟩
    · obtain ⟨hn1, hn2, hn3, hn4⟩ := neq_bools n h1 h2
      refine (rUnpack_no n A zs.length cap w hn3 hn4).mono ?_
      rintro e w' ⟨rfl, rfl⟩
      have e1 : unpackOut n zs = [] := by unfold unpackOut; rw [if_neg (by omega), if_neg (by omega)]
      have e2 : packErr n zs.length = 2 := by unfold packErr; rw [if_pos ⟨h1, h2⟩]
      rw [e1, e2]
      exact ⟨none, 0, rfl, IntsAt.nil, Below.refl _ _⟩
end Go.Proofs.Ytnkmpkbddpeplaa
