/- Layer 25: Encode of the program, for every packet. -/
import Derived.Test.YtbpcpgmbfnmacaaPkEncFF
import Derived.Test.YtbpcpgmbfnmacaaPkEncTF
import Derived.Test.YtbpcpgmbfnmacaaPkEncFT
import Derived.Test.YtbpcpgmbfnmacaaPkEncTT
namespace Go.Proofs.Ytbpcpgmbfnmacaa
open Go.RowKit
set_option linter.unusedVariables false
set_option linter.unusedSimpArgs false
attribute [local go_sem ↓] run_min_plain run_max_plain
attribute [local go_sem] setCell_drewN alloc_drewN
section
variable (mk : Bool) (ty sq ti so : Int) (Am : Option Addr) (mx : List Int) (cm : Nat) (ek : Int) (Ae : Option Addr) (et : List Int) (ce : Nat) (Ap : Option Addr) (pl : List Int) (cp : Nat) (pad : Int) (w : World)
set_option maxRecDepth 100000 in
set_option maxHeartbeats 1600000 in
theorem Enc_err (ex : Bool) (E : Int) (hE : Pk.err ⟨mk, ty, sq, ti, so, mx, ex, ek, et, pl, pad⟩ = E) (hne : E ≠ 0) (hm1 : mx.length ≤ 10000) (hm2 : et.length ≤ 10000) (hm3 : pl.length ≤ 10000) : Calls Try.prog 13 #[.agg #[.bool mk, .int .u8 ty, .int .u16 sq, .int .u32 ti, .int .u32 so, .slice Am mx.length cm, .bool ex, .int .u16 ek, .slice Ae et.length ce, .slice Ap pl.length cp, .int .i64 pad]] w (EncRC ([], E) w) := by
  have kc := fun W => check_any mk ty sq ti so Am mx cm ek Ae et ce Ap pl cp pad W ex hm1 hm2 hm3
  rw [hE] at kc
  have KC := Lib.hid kc
  clear kc hE
  have hb : (E != 0) = true := bne_iff_ne.2 hne
  clear hne
  go_enter Try.func13, Try.ntmps13
  go_wp2_with fail
  refine (KC.out _).mono ?_
  rintro e w1 ⟨rfl, hb1⟩
  have U1 := Lib.hid (((Bel.refl w).push (.cells #[.bool mk, .int .u8 ty, .int .u16 sq, .int .u32 ti, .int .u32 so, .slice Am mx.length cm, .bool ex, .int .u16 ek, .slice Ae et.length ce, .slice Ap pl.length cp, .int .i64 pad] 27)).later hb1)
  clear hb1 KC
  go_wp2_with fail
  go_ret2
  exact ⟨none, 0, rfl, Nat.le_refl _, IntsNew.nil, U1.out⟩
theorem Encode_cap (ex : Bool) (ty0 : 0 ≤ ty) (sq0 : 0 ≤ sq) (sq1 : sq ≤ 65535) (ti0 : 0 ≤ ti) (ti1 : ti ≤ 4294967295) (so0 : 0 ≤ so) (so1 : so ≤ 4294967295) (ek0 : 0 ≤ ek) (ek1 : ek ≤ 65535) (hm1 : mx.length ≤ 10000) (hm2 : et.length ≤ 10000) (hm3 : pl.length ≤ 10000) (hmx : Within 0 4294967295 mx) (Im : IntsAt w w.heap.size .u32 Am mx) (Ie : IntsAt w w.heap.size .u8 Ae et) (Ip : IntsAt w w.heap.size .u8 Ap pl) : Calls Try.prog 13 #[.agg #[.bool mk, .int .u8 ty, .int .u16 sq, .int .u32 ti, .int .u32 so, .slice Am mx.length cm, .bool ex, .int .u16 ek, .slice Ae et.length ce, .slice Ap pl.length cp, .int .i64 pad]] w (EncRC (Pk.enc ⟨mk, ty, sq, ti, so, mx, ex, ek, et, pl, pad⟩) w) := by
  unfold Pk.enc
  by_cases he : Pk.err ⟨mk, ty, sq, ti, so, mx, ex, ek, et, pl, pad⟩ = 0
  · rw [if_pos he]
    have h := he
    unfold Pk.err at h
    simp only at h
    by_cases c1 : 127 < ty ∨ pad < 0 ∨ 255 < pad
    · rw [if_pos c1] at h; cases h
    rw [if_neg c1] at h
    by_cases c2 : ex = false ∧ (ek ≠ 0 ∨ 0 < et.length) ∨ et.length % 4 ≠ 0
    · rw [if_pos c2] at h; cases h
    rw [if_neg c2] at h
    by_cases c3 : 15 < mx.length ∨ 1020 < et.length ∨ 1500 < pl.length
    · rw [if_pos c3] at h; cases h
    clear h he
    cases ex
    · have c4 : ek = 0 ∧ et.length = 0 := by
        have a : ¬(ek ≠ 0 ∨ 0 < et.length) := fun a => c2 (.inl ⟨rfl, a⟩)
        omega
      have c5 : et.length % 4 = 0 := by omega
      cases mk
      · by_cases hp : pad = 0
        · exact Enc_ffz ty sq ti so Am mx cm ek Ae et ce Ap pl cp pad w ty0 (by omega) sq0 sq1 ti0 ti1 so0 so1 ek0 ek1 hp (by omega) (by omega) c5 (by omega) hmx (by omega) c4 Im Ie Ip
        · exact Enc_ffp ty sq ti so Am mx cm ek Ae et ce Ap pl cp pad w ty0 (by omega) sq0 sq1 ti0 ti1 so0 so1 ek0 ek1 (by omega) (by omega) (by omega) c5 (by omega) hmx (by omega) c4 Im Ie Ip
      · by_cases hp : pad = 0
        · exact Enc_tfz ty sq ti so Am mx cm ek Ae et ce Ap pl cp pad w ty0 (by omega) sq0 sq1 ti0 ti1 so0 so1 ek0 ek1 hp (by omega) (by omega) c5 (by omega) hmx (by omega) c4 Im Ie Ip
        · exact Enc_tfp ty sq ti so Am mx cm ek Ae et ce Ap pl cp pad w ty0 (by omega) sq0 sq1 ti0 ti1 so0 so1 ek0 ek1 (by omega) (by omega) (by omega) c5 (by omega) hmx (by omega) c4 Im Ie Ip
    · have c5 : et.length % 4 = 0 := by
        have a : ¬(et.length % 4 ≠ 0) := fun a => c2 (.inr a)
        omega
      cases mk
      · by_cases hp : pad = 0
        · exact Enc_ftz ty sq ti so Am mx cm ek Ae et ce Ap pl cp pad w ty0 (by omega) sq0 sq1 ti0 ti1 so0 so1 ek0 ek1 hp (by omega) (by omega) c5 (by omega) hmx (by omega) trivial Im Ie Ip
        · exact Enc_ftp ty sq ti so Am mx cm ek Ae et ce Ap pl cp pad w ty0 (by omega) sq0 sq1 ti0 ti1 so0 so1 ek0 ek1 (by omega) (by omega) (by omega) c5 (by omega) hmx (by omega) trivial Im Ie Ip
      · by_cases hp : pad = 0
        · exact Enc_ttz ty sq ti so Am mx cm ek Ae et ce Ap pl cp pad w ty0 (by omega) sq0 sq1 ti0 ti1 so0 so1 ek0 ek1 hp (by omega) (by omega) c5 (by omega) hmx (by omega) trivial Im Ie Ip
        · exact Enc_ttp ty sq ti so Am mx cm ek Ae et ce Ap pl cp pad w ty0 (by omega) sq0 sq1 ti0 ti1 so0 so1 ek0 ek1 (by omega) (by omega) (by omega) c5 (by omega) hmx (by omega) trivial Im Ie Ip
  · rw [if_neg he]
    exact Enc_err mk ty sq ti so Am mx cm ek Ae et ce Ap pl cp pad w ex _ rfl he hm1 hm2 hm3
theorem Encode_any (ex : Bool) (ty0 : 0 ≤ ty) (sq0 : 0 ≤ sq) (sq1 : sq ≤ 65535) (ti0 : 0 ≤ ti) (ti1 : ti ≤ 4294967295) (so0 : 0 ≤ so) (so1 : so ≤ 4294967295) (ek0 : 0 ≤ ek) (ek1 : ek ≤ 65535) (hm1 : mx.length ≤ 10000) (hm2 : et.length ≤ 10000) (hm3 : pl.length ≤ 10000) (hmx : Within 0 4294967295 mx) (Im : IntsAt w w.heap.size .u32 Am mx) (Ie : IntsAt w w.heap.size .u8 Ae et) (Ip : IntsAt w w.heap.size .u8 Ap pl) : Calls Try.prog 13 #[.agg #[.bool mk, .int .u8 ty, .int .u16 sq, .int .u32 ti, .int .u32 so, .slice Am mx.length cm, .bool ex, .int .u16 ek, .slice Ae et.length ce, .slice Ap pl.length cp, .int .i64 pad]] w (EncR (Pk.enc ⟨mk, ty, sq, ti, so, mx, ex, ek, et, pl, pad⟩) w) :=
  (Encode_cap mk ty sq ti so Am mx cm ek Ae et ce Ap pl cp pad w ex ty0 sq0 sq1 ti0 ti1 so0 so1 ek0 ek1 hm1 hm2 hm3 hmx Im Ie Ip).mono fun _ _ h => h.toR
end
end Go.Proofs.Ytbpcpgmbfnmacaa
