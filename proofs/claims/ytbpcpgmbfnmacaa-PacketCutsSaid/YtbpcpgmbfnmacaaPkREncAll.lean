/- Layer 25: Encode of the reference, for every packet. -/
import Derived.Test.YtbpcpgmbfnmacaaPkREncFF
import Derived.Test.YtbpcpgmbfnmacaaPkREncFT
namespace Go.Proofs.Ytbpcpgmbfnmacaa
open Go.RowKit
set_option linter.unusedVariables false
set_option linter.unusedSimpArgs false
attribute [local go_sem ↓] run_min_plain run_max_plain
attribute [local go_sem] setCell_drewN alloc_drewN
section
variable (mk : Bool) (ty sq ti so : Int) (Am : Option Addr) (mx : List Int) (cm : Nat) (ek : Int) (Ae : Option Addr) (et : List Int) (ce : Nat) (Ap : Option Addr) (pl : List Int) (cp : Nat) (pad : Int) (w : World)
set_option maxRecDepth 100000 in
set_option maxHeartbeats 800000 in
theorem rEncE_r0 (ex : Bool) (h : 127 < ty) (hm1 : mx.length ≤ 10000) (hm2 : et.length ≤ 10000) (hm3 : pl.length ≤ 10000) : Calls Try.prog 14 #[.agg #[.bool mk, .int .u8 ty, .int .u16 sq, .int .u32 ti, .int .u32 so, .slice Am mx.length cm, .bool ex, .int .u16 ek, .slice Ae et.length ce, .slice Ap pl.length cp, .int .i64 pad]] w (EncR ([], 3) w) := by
  go_enter Try.func14, Try.ntmps14
  go_wp2_with fail
  go_ret2
  exact ⟨none, 0, rfl, IntsNew.nil, Bel.push (Bel.refl w) _⟩
set_option maxRecDepth 100000 in
set_option maxHeartbeats 800000 in
theorem rEncE_r1 (ex : Bool) (t : ty ≤ 127) (h : pad < 0) (hm1 : mx.length ≤ 10000) (hm2 : et.length ≤ 10000) (hm3 : pl.length ≤ 10000) : Calls Try.prog 14 #[.agg #[.bool mk, .int .u8 ty, .int .u16 sq, .int .u32 ti, .int .u32 so, .slice Am mx.length cm, .bool ex, .int .u16 ek, .slice Ae et.length ce, .slice Ap pl.length cp, .int .i64 pad]] w (EncR ([], 3) w) := by
  go_enter Try.func14, Try.ntmps14
  go_wp2_with fail
  go_ret2
  exact ⟨none, 0, rfl, IntsNew.nil, Bel.push (Bel.refl w) _⟩
set_option maxRecDepth 100000 in
set_option maxHeartbeats 800000 in
theorem rEncE_r2 (ex : Bool) (t : ty ≤ 127) (p0 : 0 ≤ pad) (h : 255 < pad) (hm1 : mx.length ≤ 10000) (hm2 : et.length ≤ 10000) (hm3 : pl.length ≤ 10000) : Calls Try.prog 14 #[.agg #[.bool mk, .int .u8 ty, .int .u16 sq, .int .u32 ti, .int .u32 so, .slice Am mx.length cm, .bool ex, .int .u16 ek, .slice Ae et.length ce, .slice Ap pl.length cp, .int .i64 pad]] w (EncR ([], 3) w) := by
  go_enter Try.func14, Try.ntmps14
  go_wp2_with fail
  go_ret2
  exact ⟨none, 0, rfl, IntsNew.nil, Bel.push (Bel.refl w) _⟩
set_option maxRecDepth 100000 in
set_option maxHeartbeats 800000 in
theorem rEncE_a0 (t : ty ≤ 127) (p0 : 0 ≤ pad) (p1 : pad ≤ 255) (h : ek ≠ 0) (hm1 : mx.length ≤ 10000) (hm2 : et.length ≤ 10000) (hm3 : pl.length ≤ 10000) : Calls Try.prog 14 #[.agg #[.bool mk, .int .u8 ty, .int .u16 sq, .int .u32 ti, .int .u32 so, .slice Am mx.length cm, .bool false, .int .u16 ek, .slice Ae et.length ce, .slice Ap pl.length cp, .int .i64 pad]] w (EncR ([], 2) w) := by
  have hb : (ek != 0) = true := bne_iff_ne.2 h
  clear h
  go_enter Try.func14, Try.ntmps14
  go_wp2_with fail
  go_ret2
  exact ⟨none, 0, rfl, IntsNew.nil, Bel.push (Bel.refl w) _⟩
set_option maxRecDepth 100000 in
set_option maxHeartbeats 800000 in
theorem rEncE_a1 (t : ty ≤ 127) (p0 : 0 ≤ pad) (p1 : pad ≤ 255) (h : ek = 0) (h2 : 0 < et.length) (hm1 : mx.length ≤ 10000) (hm2 : et.length ≤ 10000) (hm3 : pl.length ≤ 10000) : Calls Try.prog 14 #[.agg #[.bool mk, .int .u8 ty, .int .u16 sq, .int .u32 ti, .int .u32 so, .slice Am mx.length cm, .bool false, .int .u16 ek, .slice Ae et.length ce, .slice Ap pl.length cp, .int .i64 pad]] w (EncR ([], 2) w) := by
  have hb : (ek != 0) = false := by rw [h]; rfl
  have hl : (0 : Int) < (et.length : Int) := by omega
  have hl3 : ¬et.length = 0 := by omega
  have hl4 : ¬et = [] := by intro h5; rw [h5] at hl3; exact hl3 rfl
  clear h
  go_enter Try.func14, Try.ntmps14
  go_wp2_with fail
  go_ret2
  exact ⟨none, 0, rfl, IntsNew.nil, Bel.push (Bel.refl w) _⟩
set_option maxRecDepth 100000 in
set_option maxHeartbeats 800000 in
theorem rEncE_a2 (t : ty ≤ 127) (p0 : 0 ≤ pad) (p1 : pad ≤ 255) (h4 : et.length % 4 ≠ 0) (hm1 : mx.length ≤ 10000) (hm2 : et.length ≤ 10000) (hm3 : pl.length ≤ 10000) : Calls Try.prog 14 #[.agg #[.bool mk, .int .u8 ty, .int .u16 sq, .int .u32 ti, .int .u32 so, .slice Am mx.length cm, .bool true, .int .u16 ek, .slice Ae et.length ce, .slice Ap pl.length cp, .int .i64 pad]] w (EncR ([], 2) w) := by
  have m4 : ((et.length : Int).tmod 4 != 0) = true := by have := Int.tmod_eq_emod_of_nonneg (a := (et.length : Int)) (by omega) (b := 4); rw [this]; rw [bne_iff_ne]; omega
  have m5 : ((et.length : Int) % 4 != 0) = true := by rw [bne_iff_ne]; omega
  clear h4
  go_enter Try.func14, Try.ntmps14
  go_wp2_with fail
  go_ret2
  exact ⟨none, 0, rfl, IntsNew.nil, Bel.push (Bel.refl w) _⟩
set_option maxRecDepth 100000 in
set_option maxHeartbeats 800000 in
theorem rEncE_t0 (t : ty ≤ 127) (p0 : 0 ≤ pad) (p1 : pad ≤ 255) (h4 : et.length % 4 = 0) (g : 15 < mx.length) (hm1 : mx.length ≤ 10000) (hm2 : et.length ≤ 10000) (hm3 : pl.length ≤ 10000) : Calls Try.prog 14 #[.agg #[.bool mk, .int .u8 ty, .int .u16 sq, .int .u32 ti, .int .u32 so, .slice Am mx.length cm, .bool true, .int .u16 ek, .slice Ae et.length ce, .slice Ap pl.length cp, .int .i64 pad]] w (EncR ([], 4) w) := by
  have v1 : (15 : Int) < (mx.length : Int) := by omega
  have m4 : ((et.length : Int).tmod 4 != 0) = false := by have := Int.tmod_eq_emod_of_nonneg (a := (et.length : Int)) (by omega) (b := 4); rw [this]; simp; omega
  have m5 : ((et.length : Int) % 4 != 0) = false := by simp; omega
  clear h4
  go_enter Try.func14, Try.ntmps14
  go_wp2_with fail
  go_ret2
  exact ⟨none, 0, rfl, IntsNew.nil, Bel.push (Bel.refl w) _⟩
set_option maxRecDepth 100000 in
set_option maxHeartbeats 800000 in
theorem rEncE_f0 (t : ty ≤ 127) (p0 : 0 ≤ pad) (p1 : pad ≤ 255) (h : ek = 0) (h2 : et.length = 0) (g : 15 < mx.length) (hm1 : mx.length ≤ 10000) (hm2 : et.length ≤ 10000) (hm3 : pl.length ≤ 10000) : Calls Try.prog 14 #[.agg #[.bool mk, .int .u8 ty, .int .u16 sq, .int .u32 ti, .int .u32 so, .slice Am mx.length cm, .bool false, .int .u16 ek, .slice Ae et.length ce, .slice Ap pl.length cp, .int .i64 pad]] w (EncR ([], 4) w) := by
  have hb : (ek != 0) = false := by rw [h]; rfl
  obtain rfl := List.eq_nil_of_length_eq_zero h2
  clear h h2
  have v1 : (15 : Int) < (mx.length : Int) := by omega
  go_enter Try.func14, Try.ntmps14
  go_wp2_with fail
  go_ret2
  exact ⟨none, 0, rfl, IntsNew.nil, Bel.push (Bel.refl w) _⟩
set_option maxRecDepth 100000 in
set_option maxHeartbeats 800000 in
theorem rEncE_t1 (t : ty ≤ 127) (p0 : 0 ≤ pad) (p1 : pad ≤ 255) (h4 : et.length % 4 = 0) (g : mx.length ≤ 15) (g2 : 1020 < et.length) (hm1 : mx.length ≤ 10000) (hm2 : et.length ≤ 10000) (hm3 : pl.length ≤ 10000) : Calls Try.prog 14 #[.agg #[.bool mk, .int .u8 ty, .int .u16 sq, .int .u32 ti, .int .u32 so, .slice Am mx.length cm, .bool true, .int .u16 ek, .slice Ae et.length ce, .slice Ap pl.length cp, .int .i64 pad]] w (EncR ([], 4) w) := by
  have v1 : (mx.length : Int) ≤ 15 := by omega
  have v2 : (1020 : Int) < (et.length : Int) := by omega
  have m4 : ((et.length : Int).tmod 4 != 0) = false := by have := Int.tmod_eq_emod_of_nonneg (a := (et.length : Int)) (by omega) (b := 4); rw [this]; simp; omega
  have m5 : ((et.length : Int) % 4 != 0) = false := by simp; omega
  clear h4
  go_enter Try.func14, Try.ntmps14
  go_wp2_with fail
  go_ret2
  exact ⟨none, 0, rfl, IntsNew.nil, Bel.push (Bel.refl w) _⟩
set_option maxRecDepth 100000 in
set_option maxHeartbeats 800000 in
theorem rEncE_t2 (t : ty ≤ 127) (p0 : 0 ≤ pad) (p1 : pad ≤ 255) (h4 : et.length % 4 = 0) (g : mx.length ≤ 15) (g2 : et.length ≤ 1020) (g3 : 1500 < pl.length) (hm1 : mx.length ≤ 10000) (hm2 : et.length ≤ 10000) (hm3 : pl.length ≤ 10000) : Calls Try.prog 14 #[.agg #[.bool mk, .int .u8 ty, .int .u16 sq, .int .u32 ti, .int .u32 so, .slice Am mx.length cm, .bool true, .int .u16 ek, .slice Ae et.length ce, .slice Ap pl.length cp, .int .i64 pad]] w (EncR ([], 4) w) := by
  have v1 : (mx.length : Int) ≤ 15 := by omega
  have v2 : (et.length : Int) ≤ 1020 := by omega
  have v3 : (1500 : Int) < (pl.length : Int) := by omega
  have m4 : ((et.length : Int).tmod 4 != 0) = false := by have := Int.tmod_eq_emod_of_nonneg (a := (et.length : Int)) (by omega) (b := 4); rw [this]; simp; omega
  have m5 : ((et.length : Int) % 4 != 0) = false := by simp; omega
  clear h4
  go_enter Try.func14, Try.ntmps14
  go_wp2_with fail
  go_ret2
  exact ⟨none, 0, rfl, IntsNew.nil, Bel.push (Bel.refl w) _⟩
set_option maxRecDepth 100000 in
set_option maxHeartbeats 800000 in
theorem rEncE_f2 (t : ty ≤ 127) (p0 : 0 ≤ pad) (p1 : pad ≤ 255) (h : ek = 0) (h2 : et.length = 0) (g : mx.length ≤ 15) (g2 : et.length ≤ 1020) (g3 : 1500 < pl.length) (hm1 : mx.length ≤ 10000) (hm2 : et.length ≤ 10000) (hm3 : pl.length ≤ 10000) : Calls Try.prog 14 #[.agg #[.bool mk, .int .u8 ty, .int .u16 sq, .int .u32 ti, .int .u32 so, .slice Am mx.length cm, .bool false, .int .u16 ek, .slice Ae et.length ce, .slice Ap pl.length cp, .int .i64 pad]] w (EncR ([], 4) w) := by
  have hb : (ek != 0) = false := by rw [h]; rfl
  obtain rfl := List.eq_nil_of_length_eq_zero h2
  clear h h2
  have v1 : (mx.length : Int) ≤ 15 := by omega
  have v3 : (1500 : Int) < (pl.length : Int) := by omega
  go_enter Try.func14, Try.ntmps14
  go_wp2_with fail
  go_ret2
  exact ⟨none, 0, rfl, IntsNew.nil, Bel.push (Bel.refl w) _⟩
theorem rEncode_any (ex : Bool) (ty0 : 0 ≤ ty) (sq0 : 0 ≤ sq) (sq1 : sq ≤ 65535) (ti0 : 0 ≤ ti) (ti1 : ti ≤ 4294967295) (so0 : 0 ≤ so) (so1 : so ≤ 4294967295) (ek0 : 0 ≤ ek) (ek1 : ek ≤ 65535) (hm1 : mx.length ≤ 10000) (hm2 : et.length ≤ 10000) (hm3 : pl.length ≤ 10000) (hmx : Within 0 4294967295 mx) (Im : IntsAt w w.heap.size .u32 Am mx) (Ie : IntsAt w w.heap.size .u8 Ae et) (Ip : IntsAt w w.heap.size .u8 Ap pl) : Calls Try.prog 14 #[.agg #[.bool mk, .int .u8 ty, .int .u16 sq, .int .u32 ti, .int .u32 so, .slice Am mx.length cm, .bool ex, .int .u16 ek, .slice Ae et.length ce, .slice Ap pl.length cp, .int .i64 pad]] w (EncR (Pk.enc ⟨mk, ty, sq, ti, so, mx, ex, ek, et, pl, pad⟩) w) := by
  have hE : ∀ E, Pk.err ⟨mk, ty, sq, ti, so, mx, ex, ek, et, pl, pad⟩ = E → E ≠ 0 → Pk.enc ⟨mk, ty, sq, ti, so, mx, ex, ek, et, pl, pad⟩ = ([], E) := fun E h hn => by unfold Pk.enc; rw [h, if_neg hn]
  have hO : Pk.err ⟨mk, ty, sq, ti, so, mx, ex, ek, et, pl, pad⟩ = 0 → Pk.enc ⟨mk, ty, sq, ti, so, mx, ex, ek, et, pl, pad⟩ = (Pk.bytes ⟨mk, ty, sq, ti, so, mx, ex, ek, et, pl, pad⟩, 0) := fun h => by unfold Pk.enc; rw [if_pos h]
  unfold Pk.err at hE hO
  simp only at hE hO
  by_cases c1 : 127 < ty ∨ pad < 0 ∨ 255 < pad
  · rw [hE 3 (by rw [if_pos c1]) (by decide)]
    by_cases h1 : 127 < ty
    · exact rEncE_r0 mk ty sq ti so Am mx cm ek Ae et ce Ap pl cp pad w ex h1 hm1 hm2 hm3
    by_cases h2 : pad < 0
    · exact rEncE_r1 mk ty sq ti so Am mx cm ek Ae et ce Ap pl cp pad w ex (by omega) h2 hm1 hm2 hm3
    · exact rEncE_r2 mk ty sq ti so Am mx cm ek Ae et ce Ap pl cp pad w ex (by omega) (by omega) (by omega) hm1 hm2 hm3
  rw [if_neg c1] at hE hO
  cases ex
  · by_cases c2 : ek ≠ 0
    · rw [hE 2 (by rw [if_pos (.inl ⟨rfl, .inl c2⟩)]) (by decide)]
      exact rEncE_a0 mk ty sq ti so Am mx cm ek Ae et ce Ap pl cp pad w (by omega) (by omega) (by omega) c2 hm1 hm2 hm3
    have c2' : ek = 0 := by simpa using c2
    by_cases c3 : 0 < et.length
    · rw [hE 2 (by rw [if_pos (.inl ⟨rfl, .inr c3⟩)]) (by decide)]
      exact rEncE_a1 mk ty sq ti so Am mx cm ek Ae et ce Ap pl cp pad w (by omega) (by omega) (by omega) c2' c3 hm1 hm2 hm3
    rw [if_neg (by omega)] at hE hO
    by_cases c4 : 15 < mx.length
    · rw [hE 4 (by rw [if_pos (.inl c4)]) (by decide)]
      exact rEncE_f0 mk ty sq ti so Am mx cm ek Ae et ce Ap pl cp pad w (by omega) (by omega) (by omega) c2' (by omega) c4 hm1 hm2 hm3
    by_cases c5 : 1500 < pl.length
    · rw [hE 4 (by rw [if_pos (.inr (.inr c5))]) (by decide)]
      exact rEncE_f2 mk ty sq ti so Am mx cm ek Ae et ce Ap pl cp pad w (by omega) (by omega) (by omega) c2' (by omega) (by omega) (by omega) c5 hm1 hm2 hm3
    · rw [hO (by rw [if_neg (by omega)])]
      clear hE hO c2
      obtain rfl := List.eq_nil_of_length_eq_zero (show et.length = 0 by omega)
      subst c2'
      cases mk
      · by_cases hp : pad = 0
        · exact rEnc_ffz ty sq ti so Am mx cm Ae ce Ap pl cp pad w ty0 (by omega) sq0 sq1 ti0 ti1 so0 so1 hp (by omega) (by omega) hmx (by omega) Im Ip
        · exact rEnc_ffp ty sq ti so Am mx cm Ae ce Ap pl cp pad w ty0 (by omega) sq0 sq1 ti0 ti1 so0 so1 (by omega) (by omega) (by omega) hmx (by omega) Im Ip
      · by_cases hp : pad = 0
        · exact rEnc_tfz ty sq ti so Am mx cm Ae ce Ap pl cp pad w ty0 (by omega) sq0 sq1 ti0 ti1 so0 so1 hp (by omega) (by omega) hmx (by omega) Im Ip
        · exact rEnc_tfp ty sq ti so Am mx cm Ae ce Ap pl cp pad w ty0 (by omega) sq0 sq1 ti0 ti1 so0 so1 (by omega) (by omega) (by omega) hmx (by omega) Im Ip
  · by_cases c2 : et.length % 4 ≠ 0
    · rw [hE 2 (by rw [if_pos (.inr c2)]) (by decide)]
      exact rEncE_a2 mk ty sq ti so Am mx cm ek Ae et ce Ap pl cp pad w (by omega) (by omega) (by omega) c2 hm1 hm2 hm3
    rw [if_neg (by simp at c2 ⊢; omega)] at hE hO
    by_cases c4 : 15 < mx.length
    · rw [hE 4 (by rw [if_pos (.inl c4)]) (by decide)]
      exact rEncE_t0 mk ty sq ti so Am mx cm ek Ae et ce Ap pl cp pad w (by omega) (by omega) (by omega) (by omega) c4 hm1 hm2 hm3
    by_cases c5 : 1020 < et.length
    · rw [hE 4 (by rw [if_pos (.inr (.inl c5))]) (by decide)]
      exact rEncE_t1 mk ty sq ti so Am mx cm ek Ae et ce Ap pl cp pad w (by omega) (by omega) (by omega) (by omega) (by omega) c5 hm1 hm2 hm3
    by_cases c6 : 1500 < pl.length
    · rw [hE 4 (by rw [if_pos (.inr (.inr c6))]) (by decide)]
      exact rEncE_t2 mk ty sq ti so Am mx cm ek Ae et ce Ap pl cp pad w (by omega) (by omega) (by omega) (by omega) (by omega) (by omega) c6 hm1 hm2 hm3
    · rw [hO (by rw [if_neg (by omega)])]
      clear hE hO
      cases mk
      · by_cases hp : pad = 0
        · exact rEnc_ftz ty sq ti so Am mx cm ek Ae et ce Ap pl cp pad w ty0 (by omega) sq0 sq1 ti0 ti1 so0 so1 ek0 ek1 hp (by omega) (by omega) (by omega) (by omega) hmx (by omega) Im Ie Ip
        · exact rEnc_ftp ty sq ti so Am mx cm ek Ae et ce Ap pl cp pad w ty0 (by omega) sq0 sq1 ti0 ti1 so0 so1 ek0 ek1 (by omega) (by omega) (by omega) (by omega) (by omega) hmx (by omega) Im Ie Ip
      · by_cases hp : pad = 0
        · exact rEnc_ttz ty sq ti so Am mx cm ek Ae et ce Ap pl cp pad w ty0 (by omega) sq0 sq1 ti0 ti1 so0 so1 ek0 ek1 hp (by omega) (by omega) (by omega) (by omega) hmx (by omega) Im Ie Ip
        · exact rEnc_ttp ty sq ti so Am mx cm ek Ae et ce Ap pl cp pad w ty0 (by omega) sq0 sq1 ti0 ti1 so0 so1 ek0 ek1 (by omega) (by omega) (by omega) (by omega) (by omega) hmx (by omega) Im Ie Ip
end
end Go.Proofs.Ytbpcpgmbfnmacaa
