/- Layer 29, EventsTones: for every tone and bytes the law returns true. -/
import Derived.Test.YtangooegialmcaaEvLives
import Derived.Test.YtangooegialmcaaEvTypes
namespace Go.Proofs.Ytangooegialmcaa.eventsTones
open Go.RowKit
set_option linter.unusedVariables false
set_option linter.unusedSimpArgs false
theorem dec_enc (c : Int) (f : Bool) (v d : Int) (v0 : 0 ≤ v) (v1 : v ≤ 63) (d0 : 0 ≤ d) (d1 : d ≤ 65535) : Ev.decT [c, v + (if f then 128 else 0), d / 256, d % 256] = (⟨c, f, v, d⟩, 0) := by
  have a1 : decide ((128 : Int) ≤ v + (if f = true then 128 else 0)) = f := by
    cases f
    · exact decide_eq_false (by rw [if_neg (by simp)]; omega)
    · exact decide_eq_true (by rw [if_pos rfl]; omega)
  have a2 : (v + (if f = true then 128 else 0)) % 64 = v := by split <;> omega
  have a3 : 256 * (d / 256) + d % 256 = d := by omega
  have a4 : ¬(v + (if f = true then 128 else 0)) / 64 % 2 = 1 := by split <;> omega
  unfold Ev.decT
  rw [if_neg (by simp)]
  simp only [List.getD_cons_zero, List.getD_cons_succ]
  rw [if_neg (by rintro (h | h); simp at h; exact a4 h), a1, a2, a3]
theorem enc_bytes (c : Int) (f : Bool) (v d : Int) (c0 : 0 ≤ c) (c1 : c ≤ 255) (v0 : 0 ≤ v) (v1 : v ≤ 63) (d0 : 0 ≤ d) (d1 : d ≤ 65535) : Within 0 255 [c, v + (if f then 128 else 0), d / 256, d % 256] := by
  intro z hz
  cases f <;> simp at hz <;> omega
theorem dec_bd (bs : List Int) (hb : Within 0 255 bs) : 0 ≤ (Ev.decT bs).1.vol ∧ 0 ≤ (Ev.decT bs).1.dur ∧ (Ev.decT bs).1.dur ≤ 65535 := by
  unfold Ev.decT
  by_cases h4 : bs.length < 4
  · rw [if_pos h4]; simp [Ev.Tone.zero]
  · rw [if_neg h4]
    have b1 := hb.at (i := 1) (by omega)
    have b2 := hb.at (i := 2) (by omega)
    have b3 := hb.at (i := 3) (by omega)
    split
    · simp [Ev.Tone.zero]
    · simp only; omega
theorem enc_dec (bs : List Int) (hb : Within 0 255 bs) (h : (Ev.decT bs).2 = 0) : Ev.encT (Ev.decT bs).1.code (Ev.decT bs).1.fin (Ev.decT bs).1.vol (Ev.decT bs).1.dur = (bs, 0) := by
  unfold Ev.decT at *
  by_cases h4 : bs.length < 4
  · rw [if_pos h4] at h; simp at h
  · rw [if_neg h4] at h ⊢
    by_cases h5 : 4 < bs.length ∨ bs.getD 1 0 / 64 % 2 = 1
    · rw [if_pos h5] at h; simp at h
    · rw [if_neg h5]
      have hl : bs.length = 4 := by omega
      obtain ⟨x0, x1, x2, x3, rfl⟩ : ∃ x0 x1 x2 x3, bs = [x0, x1, x2, x3] := by
        match bs, hl with
        | [x0, x1, x2, x3], _ => exact ⟨x0, x1, x2, x3, rfl⟩
      have b1 := hb x1 (by simp)
      have b2 := hb x2 (by simp)
      have b3 := hb x3 (by simp)
      simp at h5
      simp only [List.getD_cons_zero, List.getD_cons_succ, Ev.encT]
      rw [if_neg (by omega)]
      by_cases hx : 128 ≤ x1
      · simp [hx]; refine ⟨?_, ?_, ?_⟩ <;> omega
      · simp [hx]; refine ⟨?_, ?_, ?_⟩ <;> omega
set_option maxHeartbeats 1600000 in
theorem t00 (w : World) (c : Int) (f : Bool) (v d : Int) (c0 : 0 ≤ c) (c255 : c ≤ 255) (v0 : 0 ≤ v) (d0 : 0 ≤ d) (d1 : d ≤ 65535) (B : Option Addr) (bs : List Int) (k : Nat) (hB : IntsAt w w.heap.size .u8 B bs) (hb : Within 0 255 bs) (hm : bs.length ≤ maxLen) (hv : 63 < v) (hg : (Ev.decT bs).2 ≠ 0) :
    Calls Try.prog 10 #[.agg #[.int .u8 c, .bool f, .int .u8 v, .int .u16 d], .slice B bs.length k] w fun e w' => e = .returned (.bool true) ∧ Below w.heap.size w w' := by
  have k1 := fun W => EncodeTone_any c f v d W v0 d0 d1
  have k2 := fun W => rEncodeTone_any c f v d W v0 d0 d1
  have k3 := fun W h => DecodeTone_any B bs k W h hb hm
  have k4 := fun W h => rDecodeTone_any B bs k W h hb hm
  obtain ⟨q0, q1, q2⟩ := dec_bd bs hb
  have hL : Ev.encT c f v d = ([], 3) := by unfold Ev.encT; rw [if_pos hv]
  rw [hL] at k1 k2
  clear hL
  have k6 := fun W => EncodeTone_any (Ev.decT bs).1.code (Ev.decT bs).1.fin (Ev.decT bs).1.vol (Ev.decT bs).1.dur W q0 q1 q2
  generalize Ev.decT bs = R at *
  obtain ⟨⟨u0, u1, u2, u3⟩, g⟩ := R
  simp only at hg k6
  generalize Ev.encT u0 u1 u2 u3 = E at *
  obtain ⟨E1, E2⟩ := E
  have hg' : (g != 0) = true := by simpa using hg
  have hg2 : (g == 0) = false := by simpa using hg
  clear hg
  simp only [Ev.Tone.row] at k3 k4
  simp only at k6
  replace k1 := Lib.hid k1
  replace k2 := Lib.hid k2
  replace k3 := Lib.hid k3
  replace k4 := Lib.hid k4
  replace k6 := Lib.hid k6
  clear q0 q1 q2 hb hm hv v0 d0 d1 c0 c255
  go_enter Try.func10, Try.ntmps10
  have U := Lib.hid (Bel.refl w)
  have IB := Lib.hid (hB)
  clear hB
  go_wp2_with fail
  replace U := Lib.hid (U.out.push (.cells #[.int .u8 c, .bool f, .int .u8 v, .int .u16 d] 31))
  replace IB := Lib.hid (IB.out.push (.cells #[.int .u8 c, .bool f, .int .u8 v, .int .u16 d] 31))
  have B0 := Lib.hid (Blk.new w 31 #[.int .u8 c, .bool f, .int .u8 v, .int .u16 d])
  refine (k1.out _).mono ?_
  rintro e w1 ⟨A1, c1, rfl, ia_, hb1⟩
  replace U := Lib.hid (U.out.later hb1)
  replace IB := Lib.hid (IB.out.later hb1)
  replace B0 := Lib.hid (B0.out.later hb1)
  clear hb1
  have Ia := Lib.hid ia_
  clear ia_
  have c_B00 := B0.out.at 0 _ rfl
  have c_B01 := B0.out.at 1 _ rfl
  have c_B02 := B0.out.at 2 _ rfl
  have c_B03 := B0.out.at 3 _ rfl
  go_wp2_with fail
  clear c_B00 c_B01 c_B02 c_B03
  refine (k2.out _).mono ?_
  rintro e w2 ⟨A2, c2, rfl, ib_, hb2⟩
  replace U := Lib.hid (U.out.later hb2)
  replace IB := Lib.hid (IB.out.later hb2)
  replace B0 := Lib.hid (B0.out.later hb2)
  replace Ia := Lib.hid (Ia.out.later hb2)
  clear hb2
  have Ib := Lib.hid ib_
  clear ib_
  have c_B00 := B0.out.at 0 _ rfl
  have c_B01 := B0.out.at 1 _ rfl
  have c_B02 := B0.out.at 2 _ rfl
  have c_B03 := B0.out.at 3 _ rfl
  go_wp2_with fail
  clear c_B00 c_B01 c_B02 c_B03
  refine (k3.out _ IB.out).mono ?_
  rintro e w3 ⟨rfl, hb3⟩
  replace U := Lib.hid (U.out.later hb3)
  replace IB := Lib.hid (IB.out.later hb3)
  replace B0 := Lib.hid (B0.out.later hb3)
  replace Ia := Lib.hid (Ia.out.later hb3)
  replace Ib := Lib.hid (Ib.out.later hb3)
  clear hb3
  replace U := Lib.hid (U.out.push (.cells #[.int .u8 u0, .bool u1, .int .u8 u2, .int .u16 u3] 31))
  replace IB := Lib.hid (IB.out.push (.cells #[.int .u8 u0, .bool u1, .int .u8 u2, .int .u16 u3] 31))
  replace B0 := Lib.hid (B0.out.push (.cells #[.int .u8 u0, .bool u1, .int .u8 u2, .int .u16 u3] 31))
  replace Ia := Lib.hid (Ia.out.push (.cells #[.int .u8 u0, .bool u1, .int .u8 u2, .int .u16 u3] 31))
  replace Ib := Lib.hid (Ib.out.push (.cells #[.int .u8 u0, .bool u1, .int .u8 u2, .int .u16 u3] 31))
  have B3 := Lib.hid (Blk.new w3 31 #[.int .u8 u0, .bool u1, .int .u8 u2, .int .u16 u3])
  go_wp2_with fail
  refine (k4.out _ IB.out).mono ?_
  rintro e w4 ⟨rfl, hb4⟩
  replace U := Lib.hid (U.out.later hb4)
  replace IB := Lib.hid (IB.out.later hb4)
  replace B0 := Lib.hid (B0.out.later hb4)
  replace Ia := Lib.hid (Ia.out.later hb4)
  replace Ib := Lib.hid (Ib.out.later hb4)
  replace B3 := Lib.hid (B3.out.later hb4)
  clear hb4
  replace U := Lib.hid (U.out.push (.cells #[.int .u8 u0, .bool u1, .int .u8 u2, .int .u16 u3] 31))
  replace IB := Lib.hid (IB.out.push (.cells #[.int .u8 u0, .bool u1, .int .u8 u2, .int .u16 u3] 31))
  replace B0 := Lib.hid (B0.out.push (.cells #[.int .u8 u0, .bool u1, .int .u8 u2, .int .u16 u3] 31))
  replace Ia := Lib.hid (Ia.out.push (.cells #[.int .u8 u0, .bool u1, .int .u8 u2, .int .u16 u3] 31))
  replace Ib := Lib.hid (Ib.out.push (.cells #[.int .u8 u0, .bool u1, .int .u8 u2, .int .u16 u3] 31))
  replace B3 := Lib.hid (B3.out.push (.cells #[.int .u8 u0, .bool u1, .int .u8 u2, .int .u16 u3] 31))
  have B4 := Lib.hid (Blk.new w4 31 #[.int .u8 u0, .bool u1, .int .u8 u2, .int .u16 u3])
  have c_B00 := B0.out.at 0 _ rfl
  have c_B01 := B0.out.at 1 _ rfl
  have c_B02 := B0.out.at 2 _ rfl
  have c_B03 := B0.out.at 3 _ rfl
  have c_B30 := B3.out.at 0 _ rfl
  have c_B31 := B3.out.at 1 _ rfl
  have c_B32 := B3.out.at 2 _ rfl
  have c_B33 := B3.out.at 3 _ rfl
  have c_B40 := B4.out.at 0 _ rfl
  have c_B41 := B4.out.at 1 _ rfl
  have c_B42 := B4.out.at 2 _ rfl
  have c_B43 := B4.out.at 3 _ rfl
  have hv1 := run_convert_ints Ia.out 77 9 5 Try.underlying77 Try.underlying5 Try.underlying9 0 c1 rfl
  have hv2 := run_convert_ints Ib.out 77 9 5 Try.underlying77 Try.underlying5 Try.underlying9 0 c2 rfl
  go_wp2_with fail
  clear c_B00 c_B01 c_B02 c_B03 c_B30 c_B31 c_B32 c_B33 c_B40 c_B41 c_B42 c_B43 hv1 hv2
  refine (k6.out _).mono ?_
  rintro e w5 ⟨A6, c6, rfl, ic_, hb5⟩
  replace U := Lib.hid (U.out.later hb5)
  replace IB := Lib.hid (IB.out.later hb5)
  replace B0 := Lib.hid (B0.out.later hb5)
  replace Ia := Lib.hid (Ia.out.later hb5)
  replace Ib := Lib.hid (Ib.out.later hb5)
  replace B3 := Lib.hid (B3.out.later hb5)
  replace B4 := Lib.hid (B4.out.later hb5)
  clear hb5
  have Ic := Lib.hid ic_
  clear ic_
  have c_B00 := B0.out.at 0 _ rfl
  have c_B01 := B0.out.at 1 _ rfl
  have c_B02 := B0.out.at 2 _ rfl
  have c_B03 := B0.out.at 3 _ rfl
  have c_B30 := B3.out.at 0 _ rfl
  have c_B31 := B3.out.at 1 _ rfl
  have c_B32 := B3.out.at 2 _ rfl
  have c_B33 := B3.out.at 3 _ rfl
  have c_B40 := B4.out.at 0 _ rfl
  have c_B41 := B4.out.at 1 _ rfl
  have c_B42 := B4.out.at 2 _ rfl
  have c_B43 := B4.out.at 3 _ rfl
  go_wp2_with fail
  clear c_B00 c_B01 c_B02 c_B03 c_B30 c_B31 c_B32 c_B33 c_B40 c_B41 c_B42 c_B43
  refine (lives29 _).mono ?_
  rintro e w6 ⟨rfl, hb6⟩
  replace U := Lib.hid (U.out.later hb6)
  replace IB := Lib.hid (IB.out.later hb6)
  replace B0 := Lib.hid (B0.out.later hb6)
  replace Ia := Lib.hid (Ia.out.later hb6)
  replace Ib := Lib.hid (Ib.out.later hb6)
  replace B3 := Lib.hid (B3.out.later hb6)
  replace B4 := Lib.hid (B4.out.later hb6)
  replace Ic := Lib.hid (Ic.out.later hb6)
  clear hb6
  go_wp2_with fail
  go_ret
  exact ⟨rfl, U.out⟩
set_option maxHeartbeats 1600000 in
theorem t01 (w : World) (c : Int) (f : Bool) (v d : Int) (c0 : 0 ≤ c) (c255 : c ≤ 255) (v0 : 0 ≤ v) (d0 : 0 ≤ d) (d1 : d ≤ 65535) (B : Option Addr) (bs : List Int) (k : Nat) (hB : IntsAt w w.heap.size .u8 B bs) (hb : Within 0 255 bs) (hm : bs.length ≤ maxLen) (hv : 63 < v) (hg : (Ev.decT bs).2 = 0) :
    Calls Try.prog 10 #[.agg #[.int .u8 c, .bool f, .int .u8 v, .int .u16 d], .slice B bs.length k] w fun e w' => e = .returned (.bool true) ∧ Below w.heap.size w w' := by
  have k1 := fun W => EncodeTone_any c f v d W v0 d0 d1
  have k2 := fun W => rEncodeTone_any c f v d W v0 d0 d1
  have k3 := fun W h => DecodeTone_any B bs k W h hb hm
  have k4 := fun W h => rDecodeTone_any B bs k W h hb hm
  obtain ⟨q0, q1, q2⟩ := dec_bd bs hb
  have hL : Ev.encT c f v d = ([], 3) := by unfold Ev.encT; rw [if_pos hv]
  rw [hL] at k1 k2
  clear hL
  have k6 := fun W => EncodeTone_any (Ev.decT bs).1.code (Ev.decT bs).1.fin (Ev.decT bs).1.vol (Ev.decT bs).1.dur W q0 q1 q2
  rw [enc_dec bs hb hg] at k6
  generalize Ev.decT bs = R at *
  obtain ⟨⟨u0, u1, u2, u3⟩, g⟩ := R
  simp only at hg
  subst hg
  simp only [Ev.Tone.row] at k3 k4
  simp only at k6
  replace k1 := Lib.hid k1
  replace k2 := Lib.hid k2
  replace k3 := Lib.hid k3
  replace k4 := Lib.hid k4
  replace k6 := Lib.hid k6
  clear q0 q1 q2 hb hm hv v0 d0 d1 c0 c255
  go_enter Try.func10, Try.ntmps10
  have U := Lib.hid (Bel.refl w)
  have IB := Lib.hid (hB)
  clear hB
  go_wp2_with fail
  replace U := Lib.hid (U.out.push (.cells #[.int .u8 c, .bool f, .int .u8 v, .int .u16 d] 31))
  replace IB := Lib.hid (IB.out.push (.cells #[.int .u8 c, .bool f, .int .u8 v, .int .u16 d] 31))
  have B0 := Lib.hid (Blk.new w 31 #[.int .u8 c, .bool f, .int .u8 v, .int .u16 d])
  refine (k1.out _).mono ?_
  rintro e w1 ⟨A1, c1, rfl, ia_, hb1⟩
  replace U := Lib.hid (U.out.later hb1)
  replace IB := Lib.hid (IB.out.later hb1)
  replace B0 := Lib.hid (B0.out.later hb1)
  clear hb1
  have Ia := Lib.hid ia_
  clear ia_
  have c_B00 := B0.out.at 0 _ rfl
  have c_B01 := B0.out.at 1 _ rfl
  have c_B02 := B0.out.at 2 _ rfl
  have c_B03 := B0.out.at 3 _ rfl
  go_wp2_with fail
  clear c_B00 c_B01 c_B02 c_B03
  refine (k2.out _).mono ?_
  rintro e w2 ⟨A2, c2, rfl, ib_, hb2⟩
  replace U := Lib.hid (U.out.later hb2)
  replace IB := Lib.hid (IB.out.later hb2)
  replace B0 := Lib.hid (B0.out.later hb2)
  replace Ia := Lib.hid (Ia.out.later hb2)
  clear hb2
  have Ib := Lib.hid ib_
  clear ib_
  have c_B00 := B0.out.at 0 _ rfl
  have c_B01 := B0.out.at 1 _ rfl
  have c_B02 := B0.out.at 2 _ rfl
  have c_B03 := B0.out.at 3 _ rfl
  go_wp2_with fail
  clear c_B00 c_B01 c_B02 c_B03
  refine (k3.out _ IB.out).mono ?_
  rintro e w3 ⟨rfl, hb3⟩
  replace U := Lib.hid (U.out.later hb3)
  replace IB := Lib.hid (IB.out.later hb3)
  replace B0 := Lib.hid (B0.out.later hb3)
  replace Ia := Lib.hid (Ia.out.later hb3)
  replace Ib := Lib.hid (Ib.out.later hb3)
  clear hb3
  replace U := Lib.hid (U.out.push (.cells #[.int .u8 u0, .bool u1, .int .u8 u2, .int .u16 u3] 31))
  replace IB := Lib.hid (IB.out.push (.cells #[.int .u8 u0, .bool u1, .int .u8 u2, .int .u16 u3] 31))
  replace B0 := Lib.hid (B0.out.push (.cells #[.int .u8 u0, .bool u1, .int .u8 u2, .int .u16 u3] 31))
  replace Ia := Lib.hid (Ia.out.push (.cells #[.int .u8 u0, .bool u1, .int .u8 u2, .int .u16 u3] 31))
  replace Ib := Lib.hid (Ib.out.push (.cells #[.int .u8 u0, .bool u1, .int .u8 u2, .int .u16 u3] 31))
  have B3 := Lib.hid (Blk.new w3 31 #[.int .u8 u0, .bool u1, .int .u8 u2, .int .u16 u3])
  go_wp2_with fail
  refine (k4.out _ IB.out).mono ?_
  rintro e w4 ⟨rfl, hb4⟩
  replace U := Lib.hid (U.out.later hb4)
  replace IB := Lib.hid (IB.out.later hb4)
  replace B0 := Lib.hid (B0.out.later hb4)
  replace Ia := Lib.hid (Ia.out.later hb4)
  replace Ib := Lib.hid (Ib.out.later hb4)
  replace B3 := Lib.hid (B3.out.later hb4)
  clear hb4
  replace U := Lib.hid (U.out.push (.cells #[.int .u8 u0, .bool u1, .int .u8 u2, .int .u16 u3] 31))
  replace IB := Lib.hid (IB.out.push (.cells #[.int .u8 u0, .bool u1, .int .u8 u2, .int .u16 u3] 31))
  replace B0 := Lib.hid (B0.out.push (.cells #[.int .u8 u0, .bool u1, .int .u8 u2, .int .u16 u3] 31))
  replace Ia := Lib.hid (Ia.out.push (.cells #[.int .u8 u0, .bool u1, .int .u8 u2, .int .u16 u3] 31))
  replace Ib := Lib.hid (Ib.out.push (.cells #[.int .u8 u0, .bool u1, .int .u8 u2, .int .u16 u3] 31))
  replace B3 := Lib.hid (B3.out.push (.cells #[.int .u8 u0, .bool u1, .int .u8 u2, .int .u16 u3] 31))
  have B4 := Lib.hid (Blk.new w4 31 #[.int .u8 u0, .bool u1, .int .u8 u2, .int .u16 u3])
  have c_B00 := B0.out.at 0 _ rfl
  have c_B01 := B0.out.at 1 _ rfl
  have c_B02 := B0.out.at 2 _ rfl
  have c_B03 := B0.out.at 3 _ rfl
  have c_B30 := B3.out.at 0 _ rfl
  have c_B31 := B3.out.at 1 _ rfl
  have c_B32 := B3.out.at 2 _ rfl
  have c_B33 := B3.out.at 3 _ rfl
  have c_B40 := B4.out.at 0 _ rfl
  have c_B41 := B4.out.at 1 _ rfl
  have c_B42 := B4.out.at 2 _ rfl
  have c_B43 := B4.out.at 3 _ rfl
  have hv1 := run_convert_ints Ia.out 77 9 5 Try.underlying77 Try.underlying5 Try.underlying9 0 c1 rfl
  have hv2 := run_convert_ints Ib.out 77 9 5 Try.underlying77 Try.underlying5 Try.underlying9 0 c2 rfl
  go_wp2_with fail
  clear c_B00 c_B01 c_B02 c_B03 c_B30 c_B31 c_B32 c_B33 c_B40 c_B41 c_B42 c_B43 hv1 hv2
  refine (k6.out _).mono ?_
  rintro e w5 ⟨A6, c6, rfl, ic_, hb5⟩
  replace U := Lib.hid (U.out.later hb5)
  replace IB := Lib.hid (IB.out.later hb5)
  replace B0 := Lib.hid (B0.out.later hb5)
  replace Ia := Lib.hid (Ia.out.later hb5)
  replace Ib := Lib.hid (Ib.out.later hb5)
  replace B3 := Lib.hid (B3.out.later hb5)
  replace B4 := Lib.hid (B4.out.later hb5)
  clear hb5
  have Ic := Lib.hid ic_
  clear ic_
  have c_B00 := B0.out.at 0 _ rfl
  have c_B01 := B0.out.at 1 _ rfl
  have c_B02 := B0.out.at 2 _ rfl
  have c_B03 := B0.out.at 3 _ rfl
  have c_B30 := B3.out.at 0 _ rfl
  have c_B31 := B3.out.at 1 _ rfl
  have c_B32 := B3.out.at 2 _ rfl
  have c_B33 := B3.out.at 3 _ rfl
  have c_B40 := B4.out.at 0 _ rfl
  have c_B41 := B4.out.at 1 _ rfl
  have c_B42 := B4.out.at 2 _ rfl
  have c_B43 := B4.out.at 3 _ rfl
  have hv3 := run_convert_ints Ic.out 77 9 5 Try.underlying77 Try.underlying5 Try.underlying9 _ c6 rfl
  have hv4 := run_convert_ints IB.out 77 9 5 Try.underlying77 Try.underlying5 Try.underlying9 _ k rfl
  go_wp2_with fail
  clear c_B00 c_B01 c_B02 c_B03 c_B30 c_B31 c_B32 c_B33 c_B40 c_B41 c_B42 c_B43 hv3 hv4
  refine (lives29 _).mono ?_
  rintro e w6 ⟨rfl, hb6⟩
  replace U := Lib.hid (U.out.later hb6)
  replace IB := Lib.hid (IB.out.later hb6)
  replace B0 := Lib.hid (B0.out.later hb6)
  replace Ia := Lib.hid (Ia.out.later hb6)
  replace Ib := Lib.hid (Ib.out.later hb6)
  replace B3 := Lib.hid (B3.out.later hb6)
  replace B4 := Lib.hid (B4.out.later hb6)
  replace Ic := Lib.hid (Ic.out.later hb6)
  clear hb6
  go_wp2_with fail
  go_ret
  exact ⟨rfl, U.out⟩
set_option maxHeartbeats 1600000 in
theorem t10 (w : World) (c : Int) (f : Bool) (v d : Int) (c0 : 0 ≤ c) (c255 : c ≤ 255) (v0 : 0 ≤ v) (d0 : 0 ≤ d) (d1 : d ≤ 65535) (B : Option Addr) (bs : List Int) (k : Nat) (hB : IntsAt w w.heap.size .u8 B bs) (hb : Within 0 255 bs) (hm : bs.length ≤ maxLen) (hv : v ≤ 63) (hg : (Ev.decT bs).2 ≠ 0) :
    Calls Try.prog 10 #[.agg #[.int .u8 c, .bool f, .int .u8 v, .int .u16 d], .slice B bs.length k] w fun e w' => e = .returned (.bool true) ∧ Below w.heap.size w w' := by
  have k1 := fun W => EncodeTone_any c f v d W v0 d0 d1
  have k2 := fun W => rEncodeTone_any c f v d W v0 d0 d1
  have k3 := fun W h => DecodeTone_any B bs k W h hb hm
  have k4 := fun W h => rDecodeTone_any B bs k W h hb hm
  obtain ⟨q0, q1, q2⟩ := dec_bd bs hb
  have hL : Ev.encT c f v d = ([c, v + (if f then 128 else 0), d / 256, d % 256], 0) := by unfold Ev.encT; rw [if_neg (by omega)]
  rw [hL] at k1 k2
  have k5 := fun A kk W h => DecodeTone_any A [c, v + (if f then 128 else 0), d / 256, d % 256] kk W h (enc_bytes c f v d c0 c255 v0 hv d0 d1) (by unfold maxLen; simp)
  rw [dec_enc c f v d v0 hv d0 d1] at k5
  generalize hLL : [c, v + (if f then 128 else 0), d / 256, d % 256] = L at *
  have hLn : L.length = 4 := by rw [← hLL]; rfl
  rw [hLn] at k5
  clear hL hLL
  simp only [Ev.Tone.row] at k5
  replace k5 := Lib.hid k5
  have k6 := fun W => EncodeTone_any (Ev.decT bs).1.code (Ev.decT bs).1.fin (Ev.decT bs).1.vol (Ev.decT bs).1.dur W q0 q1 q2
  generalize Ev.decT bs = R at *
  obtain ⟨⟨u0, u1, u2, u3⟩, g⟩ := R
  simp only at hg k6
  generalize Ev.encT u0 u1 u2 u3 = E at *
  obtain ⟨E1, E2⟩ := E
  have hg' : (g != 0) = true := by simpa using hg
  have hg2 : (g == 0) = false := by simpa using hg
  clear hg
  simp only [Ev.Tone.row] at k3 k4
  simp only at k6
  replace k1 := Lib.hid k1
  replace k2 := Lib.hid k2
  replace k3 := Lib.hid k3
  replace k4 := Lib.hid k4
  replace k6 := Lib.hid k6
  clear q0 q1 q2 hb hm hv v0 d0 d1 c0 c255
  go_enter Try.func10, Try.ntmps10
  have U := Lib.hid (Bel.refl w)
  have IB := Lib.hid (hB)
  clear hB
  go_wp2_with fail
  replace U := Lib.hid (U.out.push (.cells #[.int .u8 c, .bool f, .int .u8 v, .int .u16 d] 31))
  replace IB := Lib.hid (IB.out.push (.cells #[.int .u8 c, .bool f, .int .u8 v, .int .u16 d] 31))
  have B0 := Lib.hid (Blk.new w 31 #[.int .u8 c, .bool f, .int .u8 v, .int .u16 d])
  refine (k1.out _).mono ?_
  rintro e w1 ⟨A1, c1, rfl, ia_, hb1⟩
  replace U := Lib.hid (U.out.later hb1)
  replace IB := Lib.hid (IB.out.later hb1)
  replace B0 := Lib.hid (B0.out.later hb1)
  clear hb1
  have Ia := Lib.hid ia_
  clear ia_
  have c_B00 := B0.out.at 0 _ rfl
  have c_B01 := B0.out.at 1 _ rfl
  have c_B02 := B0.out.at 2 _ rfl
  have c_B03 := B0.out.at 3 _ rfl
  go_wp2_with fail
  clear c_B00 c_B01 c_B02 c_B03
  refine (k2.out _).mono ?_
  rintro e w2 ⟨A2, c2, rfl, ib_, hb2⟩
  replace U := Lib.hid (U.out.later hb2)
  replace IB := Lib.hid (IB.out.later hb2)
  replace B0 := Lib.hid (B0.out.later hb2)
  replace Ia := Lib.hid (Ia.out.later hb2)
  clear hb2
  have Ib := Lib.hid ib_
  clear ib_
  have c_B00 := B0.out.at 0 _ rfl
  have c_B01 := B0.out.at 1 _ rfl
  have c_B02 := B0.out.at 2 _ rfl
  have c_B03 := B0.out.at 3 _ rfl
  go_wp2_with fail
  clear c_B00 c_B01 c_B02 c_B03
  refine (k3.out _ IB.out).mono ?_
  rintro e w3 ⟨rfl, hb3⟩
  replace U := Lib.hid (U.out.later hb3)
  replace IB := Lib.hid (IB.out.later hb3)
  replace B0 := Lib.hid (B0.out.later hb3)
  replace Ia := Lib.hid (Ia.out.later hb3)
  replace Ib := Lib.hid (Ib.out.later hb3)
  clear hb3
  replace U := Lib.hid (U.out.push (.cells #[.int .u8 u0, .bool u1, .int .u8 u2, .int .u16 u3] 31))
  replace IB := Lib.hid (IB.out.push (.cells #[.int .u8 u0, .bool u1, .int .u8 u2, .int .u16 u3] 31))
  replace B0 := Lib.hid (B0.out.push (.cells #[.int .u8 u0, .bool u1, .int .u8 u2, .int .u16 u3] 31))
  replace Ia := Lib.hid (Ia.out.push (.cells #[.int .u8 u0, .bool u1, .int .u8 u2, .int .u16 u3] 31))
  replace Ib := Lib.hid (Ib.out.push (.cells #[.int .u8 u0, .bool u1, .int .u8 u2, .int .u16 u3] 31))
  have B3 := Lib.hid (Blk.new w3 31 #[.int .u8 u0, .bool u1, .int .u8 u2, .int .u16 u3])
  go_wp2_with fail
  refine (k4.out _ IB.out).mono ?_
  rintro e w4 ⟨rfl, hb4⟩
  replace U := Lib.hid (U.out.later hb4)
  replace IB := Lib.hid (IB.out.later hb4)
  replace B0 := Lib.hid (B0.out.later hb4)
  replace Ia := Lib.hid (Ia.out.later hb4)
  replace Ib := Lib.hid (Ib.out.later hb4)
  replace B3 := Lib.hid (B3.out.later hb4)
  clear hb4
  replace U := Lib.hid (U.out.push (.cells #[.int .u8 u0, .bool u1, .int .u8 u2, .int .u16 u3] 31))
  replace IB := Lib.hid (IB.out.push (.cells #[.int .u8 u0, .bool u1, .int .u8 u2, .int .u16 u3] 31))
  replace B0 := Lib.hid (B0.out.push (.cells #[.int .u8 u0, .bool u1, .int .u8 u2, .int .u16 u3] 31))
  replace Ia := Lib.hid (Ia.out.push (.cells #[.int .u8 u0, .bool u1, .int .u8 u2, .int .u16 u3] 31))
  replace Ib := Lib.hid (Ib.out.push (.cells #[.int .u8 u0, .bool u1, .int .u8 u2, .int .u16 u3] 31))
  replace B3 := Lib.hid (B3.out.push (.cells #[.int .u8 u0, .bool u1, .int .u8 u2, .int .u16 u3] 31))
  have B4 := Lib.hid (Blk.new w4 31 #[.int .u8 u0, .bool u1, .int .u8 u2, .int .u16 u3])
  have c_B00 := B0.out.at 0 _ rfl
  have c_B01 := B0.out.at 1 _ rfl
  have c_B02 := B0.out.at 2 _ rfl
  have c_B03 := B0.out.at 3 _ rfl
  have c_B30 := B3.out.at 0 _ rfl
  have c_B31 := B3.out.at 1 _ rfl
  have c_B32 := B3.out.at 2 _ rfl
  have c_B33 := B3.out.at 3 _ rfl
  have c_B40 := B4.out.at 0 _ rfl
  have c_B41 := B4.out.at 1 _ rfl
  have c_B42 := B4.out.at 2 _ rfl
  have c_B43 := B4.out.at 3 _ rfl
  have hv1 := run_convert_ints Ia.out 77 9 5 Try.underlying77 Try.underlying5 Try.underlying9 4 c1 hLn
  have hv2 := run_convert_ints Ib.out 77 9 5 Try.underlying77 Try.underlying5 Try.underlying9 4 c2 hLn
  go_wp2_with fail
  clear c_B00 c_B01 c_B02 c_B03 c_B30 c_B31 c_B32 c_B33 c_B40 c_B41 c_B42 c_B43 hv1 hv2
  refine (k5.out _ _ _ Ia.out).mono ?_
  rintro e w5 ⟨rfl, hb5⟩
  replace U := Lib.hid (U.out.later hb5)
  replace IB := Lib.hid (IB.out.later hb5)
  replace B0 := Lib.hid (B0.out.later hb5)
  replace Ia := Lib.hid (Ia.out.later hb5)
  replace Ib := Lib.hid (Ib.out.later hb5)
  replace B3 := Lib.hid (B3.out.later hb5)
  replace B4 := Lib.hid (B4.out.later hb5)
  clear hb5
  replace U := Lib.hid (U.out.push (.cells #[.int .u8 c, .bool f, .int .u8 v, .int .u16 d] 31))
  replace IB := Lib.hid (IB.out.push (.cells #[.int .u8 c, .bool f, .int .u8 v, .int .u16 d] 31))
  replace B0 := Lib.hid (B0.out.push (.cells #[.int .u8 c, .bool f, .int .u8 v, .int .u16 d] 31))
  replace Ia := Lib.hid (Ia.out.push (.cells #[.int .u8 c, .bool f, .int .u8 v, .int .u16 d] 31))
  replace Ib := Lib.hid (Ib.out.push (.cells #[.int .u8 c, .bool f, .int .u8 v, .int .u16 d] 31))
  replace B3 := Lib.hid (B3.out.push (.cells #[.int .u8 c, .bool f, .int .u8 v, .int .u16 d] 31))
  replace B4 := Lib.hid (B4.out.push (.cells #[.int .u8 c, .bool f, .int .u8 v, .int .u16 d] 31))
  have B5 := Lib.hid (Blk.new w5 31 #[.int .u8 c, .bool f, .int .u8 v, .int .u16 d])
  have c_B00 := B0.out.at 0 _ rfl
  have c_B01 := B0.out.at 1 _ rfl
  have c_B02 := B0.out.at 2 _ rfl
  have c_B03 := B0.out.at 3 _ rfl
  have c_B30 := B3.out.at 0 _ rfl
  have c_B31 := B3.out.at 1 _ rfl
  have c_B32 := B3.out.at 2 _ rfl
  have c_B33 := B3.out.at 3 _ rfl
  have c_B40 := B4.out.at 0 _ rfl
  have c_B41 := B4.out.at 1 _ rfl
  have c_B42 := B4.out.at 2 _ rfl
  have c_B43 := B4.out.at 3 _ rfl
  have c_B50 := B5.out.at 0 _ rfl
  have c_B51 := B5.out.at 1 _ rfl
  have c_B52 := B5.out.at 2 _ rfl
  have c_B53 := B5.out.at 3 _ rfl
  go_wp2_with fail
  clear c_B00 c_B01 c_B02 c_B03 c_B30 c_B31 c_B32 c_B33 c_B40 c_B41 c_B42 c_B43 c_B50 c_B51 c_B52 c_B53
  refine (k6.out _).mono ?_
  rintro e w6 ⟨A6, c6, rfl, ic_, hb6⟩
  replace U := Lib.hid (U.out.later hb6)
  replace IB := Lib.hid (IB.out.later hb6)
  replace B0 := Lib.hid (B0.out.later hb6)
  replace Ia := Lib.hid (Ia.out.later hb6)
  replace Ib := Lib.hid (Ib.out.later hb6)
  replace B3 := Lib.hid (B3.out.later hb6)
  replace B4 := Lib.hid (B4.out.later hb6)
  replace B5 := Lib.hid (B5.out.later hb6)
  clear hb6
  have Ic := Lib.hid ic_
  clear ic_
  have c_B00 := B0.out.at 0 _ rfl
  have c_B01 := B0.out.at 1 _ rfl
  have c_B02 := B0.out.at 2 _ rfl
  have c_B03 := B0.out.at 3 _ rfl
  have c_B30 := B3.out.at 0 _ rfl
  have c_B31 := B3.out.at 1 _ rfl
  have c_B32 := B3.out.at 2 _ rfl
  have c_B33 := B3.out.at 3 _ rfl
  have c_B40 := B4.out.at 0 _ rfl
  have c_B41 := B4.out.at 1 _ rfl
  have c_B42 := B4.out.at 2 _ rfl
  have c_B43 := B4.out.at 3 _ rfl
  have c_B50 := B5.out.at 0 _ rfl
  have c_B51 := B5.out.at 1 _ rfl
  have c_B52 := B5.out.at 2 _ rfl
  have c_B53 := B5.out.at 3 _ rfl
  go_wp2_with fail
  clear c_B00 c_B01 c_B02 c_B03 c_B30 c_B31 c_B32 c_B33 c_B40 c_B41 c_B42 c_B43 c_B50 c_B51 c_B52 c_B53
  refine (lives29 _).mono ?_
  rintro e w7 ⟨rfl, hb7⟩
  replace U := Lib.hid (U.out.later hb7)
  replace IB := Lib.hid (IB.out.later hb7)
  replace B0 := Lib.hid (B0.out.later hb7)
  replace Ia := Lib.hid (Ia.out.later hb7)
  replace Ib := Lib.hid (Ib.out.later hb7)
  replace B3 := Lib.hid (B3.out.later hb7)
  replace B4 := Lib.hid (B4.out.later hb7)
  replace B5 := Lib.hid (B5.out.later hb7)
  replace Ic := Lib.hid (Ic.out.later hb7)
  clear hb7
  go_wp2_with fail
  go_ret
  exact ⟨rfl, U.out⟩
set_option maxHeartbeats 1600000 in
theorem t11 (w : World) (c : Int) (f : Bool) (v d : Int) (c0 : 0 ≤ c) (c255 : c ≤ 255) (v0 : 0 ≤ v) (d0 : 0 ≤ d) (d1 : d ≤ 65535) (B : Option Addr) (bs : List Int) (k : Nat) (hB : IntsAt w w.heap.size .u8 B bs) (hb : Within 0 255 bs) (hm : bs.length ≤ maxLen) (hv : v ≤ 63) (hg : (Ev.decT bs).2 = 0) :
    Calls Try.prog 10 #[.agg #[.int .u8 c, .bool f, .int .u8 v, .int .u16 d], .slice B bs.length k] w fun e w' => e = .returned (.bool true) ∧ Below w.heap.size w w' := by
  have k1 := fun W => EncodeTone_any c f v d W v0 d0 d1
  have k2 := fun W => rEncodeTone_any c f v d W v0 d0 d1
  have k3 := fun W h => DecodeTone_any B bs k W h hb hm
  have k4 := fun W h => rDecodeTone_any B bs k W h hb hm
  obtain ⟨q0, q1, q2⟩ := dec_bd bs hb
  have hL : Ev.encT c f v d = ([c, v + (if f then 128 else 0), d / 256, d % 256], 0) := by unfold Ev.encT; rw [if_neg (by omega)]
  rw [hL] at k1 k2
  have k5 := fun A kk W h => DecodeTone_any A [c, v + (if f then 128 else 0), d / 256, d % 256] kk W h (enc_bytes c f v d c0 c255 v0 hv d0 d1) (by unfold maxLen; simp)
  rw [dec_enc c f v d v0 hv d0 d1] at k5
  generalize hLL : [c, v + (if f then 128 else 0), d / 256, d % 256] = L at *
  have hLn : L.length = 4 := by rw [← hLL]; rfl
  rw [hLn] at k5
  clear hL hLL
  simp only [Ev.Tone.row] at k5
  replace k5 := Lib.hid k5
  have k6 := fun W => EncodeTone_any (Ev.decT bs).1.code (Ev.decT bs).1.fin (Ev.decT bs).1.vol (Ev.decT bs).1.dur W q0 q1 q2
  rw [enc_dec bs hb hg] at k6
  generalize Ev.decT bs = R at *
  obtain ⟨⟨u0, u1, u2, u3⟩, g⟩ := R
  simp only at hg
  subst hg
  simp only [Ev.Tone.row] at k3 k4
  simp only at k6
  replace k1 := Lib.hid k1
  replace k2 := Lib.hid k2
  replace k3 := Lib.hid k3
  replace k4 := Lib.hid k4
  replace k6 := Lib.hid k6
  clear q0 q1 q2 hb hm hv v0 d0 d1 c0 c255
  go_enter Try.func10, Try.ntmps10
  have U := Lib.hid (Bel.refl w)
  have IB := Lib.hid (hB)
  clear hB
  go_wp2_with fail
  replace U := Lib.hid (U.out.push (.cells #[.int .u8 c, .bool f, .int .u8 v, .int .u16 d] 31))
  replace IB := Lib.hid (IB.out.push (.cells #[.int .u8 c, .bool f, .int .u8 v, .int .u16 d] 31))
  have B0 := Lib.hid (Blk.new w 31 #[.int .u8 c, .bool f, .int .u8 v, .int .u16 d])
  refine (k1.out _).mono ?_
  rintro e w1 ⟨A1, c1, rfl, ia_, hb1⟩
  replace U := Lib.hid (U.out.later hb1)
  replace IB := Lib.hid (IB.out.later hb1)
  replace B0 := Lib.hid (B0.out.later hb1)
  clear hb1
  have Ia := Lib.hid ia_
  clear ia_
  have c_B00 := B0.out.at 0 _ rfl
  have c_B01 := B0.out.at 1 _ rfl
  have c_B02 := B0.out.at 2 _ rfl
  have c_B03 := B0.out.at 3 _ rfl
  go_wp2_with fail
  clear c_B00 c_B01 c_B02 c_B03
  refine (k2.out _).mono ?_
  rintro e w2 ⟨A2, c2, rfl, ib_, hb2⟩
  replace U := Lib.hid (U.out.later hb2)
  replace IB := Lib.hid (IB.out.later hb2)
  replace B0 := Lib.hid (B0.out.later hb2)
  replace Ia := Lib.hid (Ia.out.later hb2)
  clear hb2
  have Ib := Lib.hid ib_
  clear ib_
  have c_B00 := B0.out.at 0 _ rfl
  have c_B01 := B0.out.at 1 _ rfl
  have c_B02 := B0.out.at 2 _ rfl
  have c_B03 := B0.out.at 3 _ rfl
  go_wp2_with fail
  clear c_B00 c_B01 c_B02 c_B03
  refine (k3.out _ IB.out).mono ?_
  rintro e w3 ⟨rfl, hb3⟩
  replace U := Lib.hid (U.out.later hb3)
  replace IB := Lib.hid (IB.out.later hb3)
  replace B0 := Lib.hid (B0.out.later hb3)
  replace Ia := Lib.hid (Ia.out.later hb3)
  replace Ib := Lib.hid (Ib.out.later hb3)
  clear hb3
  replace U := Lib.hid (U.out.push (.cells #[.int .u8 u0, .bool u1, .int .u8 u2, .int .u16 u3] 31))
  replace IB := Lib.hid (IB.out.push (.cells #[.int .u8 u0, .bool u1, .int .u8 u2, .int .u16 u3] 31))
  replace B0 := Lib.hid (B0.out.push (.cells #[.int .u8 u0, .bool u1, .int .u8 u2, .int .u16 u3] 31))
  replace Ia := Lib.hid (Ia.out.push (.cells #[.int .u8 u0, .bool u1, .int .u8 u2, .int .u16 u3] 31))
  replace Ib := Lib.hid (Ib.out.push (.cells #[.int .u8 u0, .bool u1, .int .u8 u2, .int .u16 u3] 31))
  have B3 := Lib.hid (Blk.new w3 31 #[.int .u8 u0, .bool u1, .int .u8 u2, .int .u16 u3])
  go_wp2_with fail
  refine (k4.out _ IB.out).mono ?_
  rintro e w4 ⟨rfl, hb4⟩
  replace U := Lib.hid (U.out.later hb4)
  replace IB := Lib.hid (IB.out.later hb4)
  replace B0 := Lib.hid (B0.out.later hb4)
  replace Ia := Lib.hid (Ia.out.later hb4)
  replace Ib := Lib.hid (Ib.out.later hb4)
  replace B3 := Lib.hid (B3.out.later hb4)
  clear hb4
  replace U := Lib.hid (U.out.push (.cells #[.int .u8 u0, .bool u1, .int .u8 u2, .int .u16 u3] 31))
  replace IB := Lib.hid (IB.out.push (.cells #[.int .u8 u0, .bool u1, .int .u8 u2, .int .u16 u3] 31))
  replace B0 := Lib.hid (B0.out.push (.cells #[.int .u8 u0, .bool u1, .int .u8 u2, .int .u16 u3] 31))
  replace Ia := Lib.hid (Ia.out.push (.cells #[.int .u8 u0, .bool u1, .int .u8 u2, .int .u16 u3] 31))
  replace Ib := Lib.hid (Ib.out.push (.cells #[.int .u8 u0, .bool u1, .int .u8 u2, .int .u16 u3] 31))
  replace B3 := Lib.hid (B3.out.push (.cells #[.int .u8 u0, .bool u1, .int .u8 u2, .int .u16 u3] 31))
  have B4 := Lib.hid (Blk.new w4 31 #[.int .u8 u0, .bool u1, .int .u8 u2, .int .u16 u3])
  have c_B00 := B0.out.at 0 _ rfl
  have c_B01 := B0.out.at 1 _ rfl
  have c_B02 := B0.out.at 2 _ rfl
  have c_B03 := B0.out.at 3 _ rfl
  have c_B30 := B3.out.at 0 _ rfl
  have c_B31 := B3.out.at 1 _ rfl
  have c_B32 := B3.out.at 2 _ rfl
  have c_B33 := B3.out.at 3 _ rfl
  have c_B40 := B4.out.at 0 _ rfl
  have c_B41 := B4.out.at 1 _ rfl
  have c_B42 := B4.out.at 2 _ rfl
  have c_B43 := B4.out.at 3 _ rfl
  have hv1 := run_convert_ints Ia.out 77 9 5 Try.underlying77 Try.underlying5 Try.underlying9 4 c1 hLn
  have hv2 := run_convert_ints Ib.out 77 9 5 Try.underlying77 Try.underlying5 Try.underlying9 4 c2 hLn
  go_wp2_with fail
  clear c_B00 c_B01 c_B02 c_B03 c_B30 c_B31 c_B32 c_B33 c_B40 c_B41 c_B42 c_B43 hv1 hv2
  refine (k5.out _ _ _ Ia.out).mono ?_
  rintro e w5 ⟨rfl, hb5⟩
  replace U := Lib.hid (U.out.later hb5)
  replace IB := Lib.hid (IB.out.later hb5)
  replace B0 := Lib.hid (B0.out.later hb5)
  replace Ia := Lib.hid (Ia.out.later hb5)
  replace Ib := Lib.hid (Ib.out.later hb5)
  replace B3 := Lib.hid (B3.out.later hb5)
  replace B4 := Lib.hid (B4.out.later hb5)
  clear hb5
  replace U := Lib.hid (U.out.push (.cells #[.int .u8 c, .bool f, .int .u8 v, .int .u16 d] 31))
  replace IB := Lib.hid (IB.out.push (.cells #[.int .u8 c, .bool f, .int .u8 v, .int .u16 d] 31))
  replace B0 := Lib.hid (B0.out.push (.cells #[.int .u8 c, .bool f, .int .u8 v, .int .u16 d] 31))
  replace Ia := Lib.hid (Ia.out.push (.cells #[.int .u8 c, .bool f, .int .u8 v, .int .u16 d] 31))
  replace Ib := Lib.hid (Ib.out.push (.cells #[.int .u8 c, .bool f, .int .u8 v, .int .u16 d] 31))
  replace B3 := Lib.hid (B3.out.push (.cells #[.int .u8 c, .bool f, .int .u8 v, .int .u16 d] 31))
  replace B4 := Lib.hid (B4.out.push (.cells #[.int .u8 c, .bool f, .int .u8 v, .int .u16 d] 31))
  have B5 := Lib.hid (Blk.new w5 31 #[.int .u8 c, .bool f, .int .u8 v, .int .u16 d])
  have c_B00 := B0.out.at 0 _ rfl
  have c_B01 := B0.out.at 1 _ rfl
  have c_B02 := B0.out.at 2 _ rfl
  have c_B03 := B0.out.at 3 _ rfl
  have c_B30 := B3.out.at 0 _ rfl
  have c_B31 := B3.out.at 1 _ rfl
  have c_B32 := B3.out.at 2 _ rfl
  have c_B33 := B3.out.at 3 _ rfl
  have c_B40 := B4.out.at 0 _ rfl
  have c_B41 := B4.out.at 1 _ rfl
  have c_B42 := B4.out.at 2 _ rfl
  have c_B43 := B4.out.at 3 _ rfl
  have c_B50 := B5.out.at 0 _ rfl
  have c_B51 := B5.out.at 1 _ rfl
  have c_B52 := B5.out.at 2 _ rfl
  have c_B53 := B5.out.at 3 _ rfl
  go_wp2_with fail
  clear c_B00 c_B01 c_B02 c_B03 c_B30 c_B31 c_B32 c_B33 c_B40 c_B41 c_B42 c_B43 c_B50 c_B51 c_B52 c_B53
  refine (k6.out _).mono ?_
  rintro e w6 ⟨A6, c6, rfl, ic_, hb6⟩
  replace U := Lib.hid (U.out.later hb6)
  replace IB := Lib.hid (IB.out.later hb6)
  replace B0 := Lib.hid (B0.out.later hb6)
  replace Ia := Lib.hid (Ia.out.later hb6)
  replace Ib := Lib.hid (Ib.out.later hb6)
  replace B3 := Lib.hid (B3.out.later hb6)
  replace B4 := Lib.hid (B4.out.later hb6)
  replace B5 := Lib.hid (B5.out.later hb6)
  clear hb6
  have Ic := Lib.hid ic_
  clear ic_
  have c_B00 := B0.out.at 0 _ rfl
  have c_B01 := B0.out.at 1 _ rfl
  have c_B02 := B0.out.at 2 _ rfl
  have c_B03 := B0.out.at 3 _ rfl
  have c_B30 := B3.out.at 0 _ rfl
  have c_B31 := B3.out.at 1 _ rfl
  have c_B32 := B3.out.at 2 _ rfl
  have c_B33 := B3.out.at 3 _ rfl
  have c_B40 := B4.out.at 0 _ rfl
  have c_B41 := B4.out.at 1 _ rfl
  have c_B42 := B4.out.at 2 _ rfl
  have c_B43 := B4.out.at 3 _ rfl
  have c_B50 := B5.out.at 0 _ rfl
  have c_B51 := B5.out.at 1 _ rfl
  have c_B52 := B5.out.at 2 _ rfl
  have c_B53 := B5.out.at 3 _ rfl
  have hv3 := run_convert_ints Ic.out 77 9 5 Try.underlying77 Try.underlying5 Try.underlying9 _ c6 rfl
  have hv4 := run_convert_ints IB.out 77 9 5 Try.underlying77 Try.underlying5 Try.underlying9 _ k rfl
  go_wp2_with fail
  clear c_B00 c_B01 c_B02 c_B03 c_B30 c_B31 c_B32 c_B33 c_B40 c_B41 c_B42 c_B43 c_B50 c_B51 c_B52 c_B53 hv3 hv4
  refine (lives29 _).mono ?_
  rintro e w7 ⟨rfl, hb7⟩
  replace U := Lib.hid (U.out.later hb7)
  replace IB := Lib.hid (IB.out.later hb7)
  replace B0 := Lib.hid (B0.out.later hb7)
  replace Ia := Lib.hid (Ia.out.later hb7)
  replace Ib := Lib.hid (Ib.out.later hb7)
  replace B3 := Lib.hid (B3.out.later hb7)
  replace B4 := Lib.hid (B4.out.later hb7)
  replace B5 := Lib.hid (B5.out.later hb7)
  replace Ic := Lib.hid (Ic.out.later hb7)
  clear hb7
  go_wp2_with fail
  go_ret
  exact ⟨rfl, U.out⟩
theorem walk (w : World) (c : Int) (f : Bool) (v d : Int) (wt : (⟨c, f, v, d⟩ : TTone).ok) (B : Option Addr) (bs : List Int) (k : Nat) (hl : bs.length ≤ k) (hk : k ≤ maxLen) (hB : IntsAt w w.heap.size .u8 B bs) (w2 : ∀ z ∈ bs, (Lit.int .u8 z).wf = true) :
    Calls Try.prog 10 #[.agg #[.int .u8 c, .bool f, .int .u8 v, .int .u16 d], .slice B bs.length k] w fun e w' => e = .returned (.bool true) ∧ Below w.heap.size w w' := by
  obtain ⟨h1, h2, h3⟩ := wt
  have hc : 0 ≤ c ∧ c ≤ 255 := by simpa [Lit.wf, IntKind.min, IntKind.max, IntKind.signed, IntKind.bits] using h1
  have hv : 0 ≤ v ∧ v ≤ 255 := by simpa [Lit.wf, IntKind.min, IntKind.max, IntKind.signed, IntKind.bits] using h2
  have hd : 0 ≤ d ∧ d ≤ 65535 := by simpa [Lit.wf, IntKind.min, IntKind.max, IntKind.signed, IntKind.bits] using h3
  by_cases h63 : 63 < v <;> by_cases hg : (Ev.decT bs).2 = 0
  · exact t01 w c f v d hc.1 hc.2 hv.1 hd.1 hd.2 B bs k hB (within_u8 w2) (by omega) h63 hg
  · exact t00 w c f v d hc.1 hc.2 hv.1 hd.1 hd.2 B bs k hB (within_u8 w2) (by omega) h63 hg
  · exact t11 w c f v d hc.1 hc.2 hv.1 hd.1 hd.2 B bs k hB (within_u8 w2) (by omega) (by omega) hg
  · exact t10 w c f v d hc.1 hc.2 hv.1 hd.1 hd.2 B bs k hB (within_u8 w2) (by omega) (by omega) hg
end Go.Proofs.Ytangooegialmcaa.eventsTones
