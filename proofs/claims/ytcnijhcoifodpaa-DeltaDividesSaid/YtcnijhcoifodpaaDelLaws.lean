/- Layer 28: one contract for each function of the program and of the reference, over all inputs; Same, size, lives. -/
import Derived.Test.YtcnijhcoifodpaaDelRefUnpack
import Derived.Test.YtcnijhcoifodpaaDelUnpackZ
import Derived.Test.YtcnijhcoifodpaaDelRefPack
namespace Go.Proofs.Ytcnijhcoifodpaa
open Go.RowKit
set_option linter.unusedVariables false

/-- what Encode returns: code, value, index, error -/
def Dlt.encR (v i x : Int) : Int × Int × Int × Int := if Dlt.valid v i = true then (Dlt.code v i x, Dlt.nextV v i (Dlt.code v i x), Dlt.nextI i (Dlt.code v i x), 0) else (0, 0, 0, 2)
/-- what Decode returns: sample, value, index, error -/
def Dlt.decR (v i c : Int) : Int × Int × Int × Int := if Dlt.valid v i = true then (if c ≤ 15 then (Dlt.nextV v i c, Dlt.nextV v i c, Dlt.nextI i c, 0) else (0, 0, 0, 3)) else (0, 0, 0, 2)
/-- what Pack returns: bytes, value, index, error -/
def Dlt.packR (v i : Int) (zs : List Int) : List Int × Int × Int × Int :=
  if Dlt.valid v i = true then (if zs.length ≤ 8000 then (Dlt.packB (v, i) zs, (Dlt.stAt (v, i) zs zs.length).1, (Dlt.stAt (v, i) zs zs.length).2, 0) else ([], 0, 0, 4)) else ([], 0, 0, 2)
/-- what Unpack returns: samples, value, index, error -/
def Dlt.unpR (bs : List Int) (n : Int) : List Int × Int × Int × Int :=
  if n < 0 ∨ 8000 < n then ([], 0, 0, 3) else if bs.length < 4 + (n.toNat + 1) / 2 then ([], 0, 0, 6) else
    if Dlt.okB bs n.toNat then (Dlt.unpackL bs n.toNat, (Dlt.dAt (Dlt.headS bs) bs n.toNat).1, (Dlt.dAt (Dlt.headS bs) bs n.toNat).2, 0) else ([], 0, 0, 5)
section
variable (v i x : Int) (w : World)
theorem Encode_any (x0 : -32768 ≤ x) (x1 : x ≤ 32767) :
    Calls Try.prog 9 #[.agg #[.int .i64 v, .int .i64 i], .int .i16 x] w fun e w' => e = .returned (.tuple #[.int .u8 (Dlt.encR v i x).1, .agg #[.int .i64 (Dlt.encR v i x).2.1, .int .i64 (Dlt.encR v i x).2.2.1], .int .u8 (Dlt.encR v i x).2.2.2]) ∧ Below w.heap.size w w' := by
  unfold Dlt.encR
  by_cases hv : Dlt.valid v i = true
  · rw [if_pos hv]; exact Encode_ok v i x w hv x0 x1
  · rw [if_neg hv]; exact Encode_bad v i x w (by simpa using hv)
theorem rEncode_any (x0 : -32768 ≤ x) (x1 : x ≤ 32767) :
    Calls Try.prog 14 #[.agg #[.int .i64 v, .int .i64 i], .int .i16 x] w fun e w' => e = .returned (.tuple #[.int .u8 (Dlt.encR v i x).1, .agg #[.int .i64 (Dlt.encR v i x).2.1, .int .i64 (Dlt.encR v i x).2.2.1], .int .u8 (Dlt.encR v i x).2.2.2]) ∧ Below w.heap.size w w' := by
  unfold Dlt.encR
  by_cases hv : Dlt.valid v i = true
  · rw [if_pos hv]; exact rEncode_ok v i x w hv x0 x1
  · rw [if_neg hv]; exact rEncode_bad v i x w (by simpa using hv)
theorem Decode_any (x0 : 0 ≤ x) :
    Calls Try.prog 15 #[.agg #[.int .i64 v, .int .i64 i], .int .u8 x] w fun e w' => e = .returned (.tuple #[.int .i16 (Dlt.decR v i x).1, .agg #[.int .i64 (Dlt.decR v i x).2.1, .int .i64 (Dlt.decR v i x).2.2.1], .int .u8 (Dlt.decR v i x).2.2.2]) ∧ Below w.heap.size w w' := by
  unfold Dlt.decR
  by_cases hv : Dlt.valid v i = true
  · rw [if_pos hv]
    by_cases hx : x ≤ 15
    · rw [if_pos hx]; exact Decode_ok v i x w hv x0 hx
    · rw [if_neg hx]; exact Decode_range v i x w hv (by omega)
  · rw [if_neg hv]; exact Decode_bad v i x w (by simpa using hv)
theorem rDecode_any (x0 : 0 ≤ x) :
    Calls Try.prog 16 #[.agg #[.int .i64 v, .int .i64 i], .int .u8 x] w fun e w' => e = .returned (.tuple #[.int .i16 (Dlt.decR v i x).1, .agg #[.int .i64 (Dlt.decR v i x).2.1, .int .i64 (Dlt.decR v i x).2.2.1], .int .u8 (Dlt.decR v i x).2.2.2]) ∧ Below w.heap.size w w' := by
  unfold Dlt.decR
  by_cases hv : Dlt.valid v i = true
  · rw [if_pos hv]
    by_cases hx : x ≤ 15
    · rw [if_pos hx]; exact rDecode_ok v i x w hv x0 hx
    · rw [if_neg hx]; exact rDecode_range v i x w hv (by omega)
  · rw [if_neg hv]; exact rDecode_bad v i x w (by simpa using hv)
variable (A : Option Addr) (zs : List Int) (cap : Nat)
theorem Pack_full (hA : IntsAt w w.heap.size .i16 A zs) (hz : Within (-32768) 32767 zs) :
    Calls Try.prog 19 #[.agg #[.int .i64 v, .int .i64 i], .slice A zs.length cap] w fun e w' => ∃ (A' : Option Addr) (c' : Nat), e = .returned (.tuple #[.slice A' (Dlt.packR v i zs).1.length c', .agg #[.int .i64 (Dlt.packR v i zs).2.1, .int .i64 (Dlt.packR v i zs).2.2.1], .int .u8 (Dlt.packR v i zs).2.2.2]) ∧
      (Dlt.packR v i zs).1.length ≤ c' ∧ IntsAt w' w'.heap.size .u8 A' (Dlt.packR v i zs).1 ∧ Below w.heap.size w w' := by
  unfold Dlt.packR
  by_cases hv : Dlt.valid v i = true
  · rw [if_pos hv]
    by_cases h8 : zs.length ≤ 8000
    · rw [if_pos h8]
      refine (?_ : Calls _ _ _ _ (fun e w' => ∃ (A' : Option Addr) (c' : Nat), e = .returned (.tuple #[.slice A' (4 + (zs.length + 1) / 2) c', .agg #[.int .i64 (Dlt.stAt (v, i) zs zs.length).1, .int .i64 (Dlt.stAt (v, i) zs zs.length).2], .int .u8 0]) ∧ 4 + (zs.length + 1) / 2 ≤ c' ∧ IntsAt w' w'.heap.size .u8 A' (Dlt.packB (v, i) zs) ∧ Below w.heap.size w w')).mono ?_
      · rcases Nat.eq_zero_or_pos zs.length with h0 | h0
        · obtain rfl := List.eq_nil_of_length_eq_zero h0
          exact Pack_zero v i A cap w hv
        · exact Pack_ok v i A zs cap w hv hA hz h8 h0
      · rintro e w' ⟨A', c', rfl, hc, h⟩
        exact ⟨A', c', by rw [Dlt.packB_len], by rw [Dlt.packB_len]; exact hc, h⟩
    · rw [if_neg h8]
      refine (Pack_long v i A zs.length cap w hv (by omega)).mono ?_
      rintro e w' ⟨rfl, hb⟩
      exact ⟨none, 0, rfl, Nat.le_refl _, IntsAt.nil, hb⟩
  · rw [if_neg hv]
    refine (Pack_bad v i A zs.length cap w (by simpa using hv)).mono ?_
    rintro e w' ⟨rfl, hb⟩
    exact ⟨none, 0, rfl, Nat.le_refl _, IntsAt.nil, hb⟩
theorem Pack_any (hA : IntsAt w w.heap.size .i16 A zs) (hz : Within (-32768) 32767 zs) :
    Calls Try.prog 19 #[.agg #[.int .i64 v, .int .i64 i], .slice A zs.length cap] w fun e w' => ∃ (A' : Option Addr) (c' : Nat), e = .returned (.tuple #[.slice A' (Dlt.packR v i zs).1.length c', .agg #[.int .i64 (Dlt.packR v i zs).2.1, .int .i64 (Dlt.packR v i zs).2.2.1], .int .u8 (Dlt.packR v i zs).2.2.2]) ∧
      IntsAt w' w'.heap.size .u8 A' (Dlt.packR v i zs).1 ∧ Below w.heap.size w w' := by
  refine (Pack_full v i w A zs cap hA hz).mono ?_
  rintro e w' ⟨A', c', h1, _, h2⟩
  exact ⟨A', c', h1, h2⟩
theorem rPack_any (hA : IntsAt w w.heap.size .i16 A zs) (hz : Within (-32768) 32767 zs) :
    Calls Try.prog 20 #[.agg #[.int .i64 v, .int .i64 i], .slice A zs.length cap] w fun e w' => ∃ (A' : Option Addr) (c' : Nat), e = .returned (.tuple #[.slice A' (Dlt.packR v i zs).1.length c', .agg #[.int .i64 (Dlt.packR v i zs).2.1, .int .i64 (Dlt.packR v i zs).2.2.1], .int .u8 (Dlt.packR v i zs).2.2.2]) ∧
      IntsAt w' w'.heap.size .u8 A' (Dlt.packR v i zs).1 ∧ Below w.heap.size w w' := by
  unfold Dlt.packR
  by_cases hv : Dlt.valid v i = true
  · rw [if_pos hv]
    by_cases h8 : zs.length ≤ 8000
    · rw [if_pos h8]
      refine (rPack_ok v i A zs cap w hv hA hz h8).mono ?_
      rintro e w' ⟨A', c', rfl, h⟩
      exact ⟨A', c', by rw [Dlt.packB_len], h⟩
    · rw [if_neg h8]
      refine (rPack_long v i A zs.length cap w hv (by omega)).mono ?_
      rintro e w' ⟨rfl, hb⟩
      exact ⟨none, 0, rfl, IntsAt.nil, hb⟩
  · rw [if_neg hv]
    refine (rPack_bad v i A zs.length cap w (by simpa using hv)).mono ?_
    rintro e w' ⟨rfl, hb⟩
    exact ⟨none, 0, rfl, IntsAt.nil, hb⟩
variable (bs : List Int) (n : Int)
theorem Dlt.unpackL_len (bs : List Int) (n : Nat) : (Dlt.unpackL bs n).length = n := by simp [Dlt.unpackL]
theorem Unpack_any (hA : IntsAt w w.heap.size .u8 A bs) (hz : Within 0 255 bs) (hcap : bs.length ≤ cap) (hmax : bs.length ≤ maxLen) :
    Calls Try.prog 21 #[.slice A bs.length cap, .int .i64 n] w fun e w' => ∃ (A' : Option Addr) (c' : Nat), e = .returned (.tuple #[.slice A' (Dlt.unpR bs n).1.length c', .agg #[.int .i64 (Dlt.unpR bs n).2.1, .int .i64 (Dlt.unpR bs n).2.2.1], .int .u8 (Dlt.unpR bs n).2.2.2]) ∧
      IntsAt w' w'.heap.size .i16 A' (Dlt.unpR bs n).1 ∧ Below w.heap.size w w' := by
  unfold Dlt.unpR
  by_cases hr : n < 0 ∨ 8000 < n
  · rw [if_pos hr]
    refine (Unpack_range n A bs.length cap w hr).mono ?_
    rintro e w' ⟨rfl, hb⟩
    exact ⟨none, 0, rfl, IntsAt.nil, hb⟩
  · rw [if_neg hr]
    obtain ⟨m, rfl⟩ := Int.eq_ofNat_of_zero_le (a := n) (by omega)
    rw [Int.toNat_natCast]
    by_cases hs : bs.length < 4 + (m + 1) / 2
    · rw [if_pos hs]
      refine (Unpack_short m A bs.length cap w (by omega) hs).mono ?_
      rintro e w' ⟨rfl, hb⟩
      exact ⟨none, 0, rfl, IntsAt.nil, hb⟩
    · rw [if_neg hs]
      by_cases hk : Dlt.okB bs m
      · rw [if_pos hk]
        rcases Nat.eq_zero_or_pos m with h0 | h0
        · subst h0
          refine (Unpack_zero A bs cap w hA hz hk hcap).mono ?_
          rintro e w' ⟨A', c', rfl, h⟩
          exact ⟨A', c', rfl, h⟩
        · refine (Unpack_ok m A bs cap w (by omega) h0 hA hz hk hcap).mono ?_
          rintro e w' ⟨A', c', rfl, h⟩
          exact ⟨A', c', by rw [Dlt.unpackL_len], h⟩
      · rw [if_neg hk]
        refine (Unpack_syntax m A bs cap w (by omega) hA hz (by omega) hk hmax).mono ?_
        rintro e w' ⟨rfl, hb⟩
        exact ⟨none, 0, rfl, IntsAt.nil, hb⟩
theorem rUnpack_any (hA : IntsAt w w.heap.size .u8 A bs) (hz : Within 0 255 bs) (hcap : bs.length ≤ cap) (hmax : bs.length ≤ maxLen) :
    Calls Try.prog 22 #[.slice A bs.length cap, .int .i64 n] w fun e w' => ∃ (A' : Option Addr) (c' : Nat), e = .returned (.tuple #[.slice A' (Dlt.unpR bs n).1.length c', .agg #[.int .i64 (Dlt.unpR bs n).2.1, .int .i64 (Dlt.unpR bs n).2.2.1], .int .u8 (Dlt.unpR bs n).2.2.2]) ∧
      IntsAt w' w'.heap.size .i16 A' (Dlt.unpR bs n).1 ∧ Below w.heap.size w w' := by
  unfold Dlt.unpR
  by_cases hr : n < 0 ∨ 8000 < n
  · rw [if_pos hr]
    refine (rUnpack_range n A bs.length cap w hr).mono ?_
    rintro e w' ⟨rfl, hb⟩
    exact ⟨none, 0, rfl, IntsAt.nil, hb⟩
  · rw [if_neg hr]
    obtain ⟨m, rfl⟩ := Int.eq_ofNat_of_zero_le (a := n) (by omega)
    rw [Int.toNat_natCast]
    by_cases hs : bs.length < 4 + (m + 1) / 2
    · rw [if_pos hs]
      refine (rUnpack_short m A bs.length cap w (by omega) hs).mono ?_
      rintro e w' ⟨rfl, hb⟩
      exact ⟨none, 0, rfl, IntsAt.nil, hb⟩
    · rw [if_neg hs]
      by_cases hk : Dlt.okB bs m
      · rw [if_pos hk]
        refine (rUnpack_ok m A bs cap w (by omega) hA hz hk hcap).mono ?_
        rintro e w' ⟨A', c', rfl, h⟩
        exact ⟨A', c', by rw [Dlt.unpackL_len], h⟩
      · rw [if_neg hk]
        refine (rUnpack_syntax m A bs cap w (by omega) hA hz (by omega) hk hmax).mono ?_
        rintro e w' ⟨rfl, hb⟩
        exact ⟨none, 0, rfl, IntsAt.nil, hb⟩
end
end Go.Proofs.Ytcnijhcoifodpaa
