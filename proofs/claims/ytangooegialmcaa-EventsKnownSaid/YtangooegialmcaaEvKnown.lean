/- Layer 29, EventsKnown: the law returns true. -/
import Derived.Test.YtangooegialmcaaEvLives
import Derived.Test.YtangooegialmcaaSame27
namespace Go.Proofs.Ytangooegialmcaa.eventsKnown
open Go.RowKit
set_option linter.unusedVariables false
set_option linter.unusedSimpArgs false
theorem noise_k (l : Int) (L : List Int) (h0 : 0 ≤ l) (h1 : l ≤ 255) (hL : ((List.range 2).map fun k => Ev.nsamp (Ev.amp (l / 6).toNat) 1 k) = L) (W : World) :
    Calls Try.prog 28 #[.int .u8 l, .int .u32 1, .int .i64 2] W fun e w' => ∃ (A : Option Addr) (c : Nat), e = .returned (.tuple #[.slice A 2 c, .int .u32 2524885223, .int .u8 0]) ∧ IntsAt w' w'.heap.size .i16 A L ∧ Below W.heap.size W w' := by
  subst hL
  have hs : Ev.seed 1 2 = 2524885223 := by decide +kernel
  refine (Noise_ok l 1 W 2 h0 h1 (by omega) (by omega) (by omega)).mono ?_
  rintro e w' ⟨A, c, rfl, h⟩
  exact ⟨A, c, by rw [hs], h⟩
theorem hk1 : Ev.hear ⟨false, 0, 0, 0, false⟩ 1000 ⟨5, true, 0, 320⟩ = (⟨true, 1000, 5, 320, true⟩, [⟨5, true, 1000, 0⟩, ⟨5, false, 1000, 320⟩]) := by rfl
theorem hk2 : Ev.hear ⟨true, 1000, 5, 320, true⟩ 2000 ⟨6, false, 0, 0⟩ = (⟨true, 2000, 6, 0, false⟩, [⟨6, true, 2000, 0⟩]) := by rfl
set_option maxHeartbeats 3200000 in
theorem walk (w : World) : Calls Try.prog 11 #[] w fun e w' => e = .returned (.bool true) ∧ Below w.heap.size w w' := by
  have hm : ∀ n, n ≤ 6 → n ≤ maxLen := fun n hn => by unfold maxLen; omega
  have k1 := fun A W h => DecodeTone_any A [5, 138, 3] 3 W h (by decide : ∀ z ∈ [5, 138, 3], (0 : Int) ≤ z ∧ z ≤ 255) (hm _ (by decide))
  have k2 := fun A W h => DecodeTone_any A [5, 202, 3, 32] 4 W h (by decide : ∀ z ∈ [5, 202, 3, 32], (0 : Int) ≤ z ∧ z ≤ 255) (hm _ (by decide))
  rw [show Ev.decT [5, 138, 3] = (Ev.Tone.zero, 6) from rfl] at k1
  rw [show Ev.decT [5, 202, 3, 32] = (Ev.Tone.zero, 5) from rfl] at k2
  simp only [Ev.Tone.row, Ev.Tone.zero] at k1 k2
  have k3 := noise_k 0 [-15929, 5759] (by omega) (by omega) (by decide +kernel)
  have k4 := noise_k 90 [0, 0] (by omega) (by omega) (by decide +kernel)
  have k5 := fun W => Hear_any false 0 0 0 false 1000 5 true 0 320 W (by omega) (by omega) (by omega) (by omega) (by omega) (by omega)
  rw [hk1] at k5
  have k6 := fun W => Hear_any true 1000 5 320 true 2000 6 false 0 0 W (by omega) (by omega) (by omega) (by omega) (by omega) (by omega)
  rw [hk2] at k6
  have k7 := fun A W h => Level_any A [0] 1 W h (fun z hz => by simp at hz; omega) (by decide)
  rw [show Ev.lev [0] = 127 by decide +kernel] at k7
  have k8 := fun A W h => Level_any A [-32768] 1 W h (fun z hz => by simp at hz; omega) (by decide)
  rw [show Ev.lev [-32768] = 0 by decide +kernel] at k8
  replace k1 := Lib.hid k1
  replace k2 := Lib.hid k2
  replace k3 := Lib.hid k3
  replace k4 := Lib.hid k4
  replace k5 := Lib.hid k5
  replace k6 := Lib.hid k6
  replace k7 := Lib.hid k7
  replace k8 := Lib.hid k8
  clear hm
  go_enter Try.func11, Try.ntmps11
  have U := Lib.hid (Bel.refl w)
  go_wp2_with fail
  replace U := Lib.hid (U.out.push (.cells #[.int .u8 5, .int .u8 138, .int .u8 3] 5))
  refine (k1.out _ _ (IntsAt.lit0 w 5 .u8 [5, 138, 3] [.int .u8 (5), .int .u8 (138), .int .u8 (3)] rfl)).mono ?_
  rintro e w1 ⟨rfl, hb1⟩
  replace U := Lib.hid (U.out.later hb1)
  clear hb1
  replace U := Lib.hid (U.out.push (.cells #[.int .u8 0, .bool false, .int .u8 0, .int .u16 0] 31))
  go_wp2_with fail
  replace U := Lib.hid (U.out.push (.cells #[.int .u8 5, .int .u8 202, .int .u8 3, .int .u8 32] 5))
  refine (k2.out _ _ (IntsAt.lit1 w1 _ 5 .u8 [5, 202, 3, 32] [.int .u8 (5), .int .u8 (202), .int .u8 (3), .int .u8 (32)] rfl)).mono ?_
  rintro e w2 ⟨rfl, hb2⟩
  replace U := Lib.hid (U.out.later hb2)
  clear hb2
  replace U := Lib.hid (U.out.push (.cells #[.int .u8 0, .bool false, .int .u8 0, .int .u16 0] 31))
  go_wp2_with fail
  refine (k3.out _).mono ?_
  rintro e w3 ⟨A3, c3, rfl, ia_, hb3⟩
  replace U := Lib.hid (U.out.later hb3)
  clear hb3
  have Ia := Lib.hid ia_
  clear ia_
  go_wp2_with fail
  refine (k4.out _).mono ?_
  rintro e w4 ⟨A4, c4, rfl, ib_, hb4⟩
  replace U := Lib.hid (U.out.later hb4)
  replace Ia := Lib.hid (Ia.out.later hb4)
  clear hb4
  have Ib := Lib.hid ib_
  clear ib_
  go_wp2_with fail
  refine (k5.out _).mono ?_
  rintro e w5 ⟨A5, c5, rfl, ra_, hb5⟩
  replace U := Lib.hid (U.out.later hb5)
  replace Ia := Lib.hid (Ia.out.later hb5)
  replace Ib := Lib.hid (Ib.out.later hb5)
  clear hb5
  have Ra := Lib.hid ra_
  clear ra_
  simp only [Ev.Rcv.row, List.length_cons, List.length_nil, Nat.zero_add]
  replace U := Lib.hid (U.out.push (.cells #[.bool true, .int .u32 1000, .int .u8 5, .int .i64 320, .bool true] 24))
  replace Ia := Lib.hid (Ia.out.push (.cells #[.bool true, .int .u32 1000, .int .u8 5, .int .i64 320, .bool true] 24))
  replace Ib := Lib.hid (Ib.out.push (.cells #[.bool true, .int .u32 1000, .int .u8 5, .int .i64 320, .bool true] 24))
  replace Ra := Lib.hid (Ra.out.push (.cells #[.bool true, .int .u32 1000, .int .u8 5, .int .i64 320, .bool true] 24))
  have BR := Lib.hid (Blk.new w5 24 #[.bool true, .int .u32 1000, .int .u8 5, .int .i64 320, .bool true])
  clear Ra
  have c_BR0 := BR.out.at 0 _ rfl
  have c_BR1 := BR.out.at 1 _ rfl
  have c_BR2 := BR.out.at 2 _ rfl
  have c_BR3 := BR.out.at 3 _ rfl
  have c_BR4 := BR.out.at 4 _ rfl
  go_wp2_with fail
  clear c_BR0 c_BR1 c_BR2 c_BR3 c_BR4
  refine (k6.out _).mono ?_
  rintro e w6 ⟨A6, c6, rfl, rb_, hb6⟩
  replace U := Lib.hid (U.out.later hb6)
  replace Ia := Lib.hid (Ia.out.later hb6)
  replace Ib := Lib.hid (Ib.out.later hb6)
  replace BR := Lib.hid (BR.out.later hb6)
  clear hb6
  have Rb := Lib.hid rb_
  clear rb_
  simp only [Ev.Rcv.row, List.length_cons, List.length_nil, Nat.zero_add]
  replace U := Lib.hid (U.out.push (.cells #[.bool true, .int .u32 2000, .int .u8 6, .int .i64 0, .bool false] 24))
  replace Ia := Lib.hid (Ia.out.push (.cells #[.bool true, .int .u32 2000, .int .u8 6, .int .i64 0, .bool false] 24))
  replace Ib := Lib.hid (Ib.out.push (.cells #[.bool true, .int .u32 2000, .int .u8 6, .int .i64 0, .bool false] 24))
  replace BR := Lib.hid (BR.out.push (.cells #[.bool true, .int .u32 2000, .int .u8 6, .int .i64 0, .bool false] 24))
  replace Rb := Lib.hid (Rb.out.push (.cells #[.bool true, .int .u32 2000, .int .u8 6, .int .i64 0, .bool false] 24))
  clear BR
  go_wp2_with fail
  replace U := Lib.hid (U.out.push (.cells #[.int .i16 (-15929), .int .i16 5759] 40))
  replace Ia := Lib.hid (Ia.out.push (.cells #[.int .i16 (-15929), .int .i16 5759] 40))
  replace Ib := Lib.hid (Ib.out.push (.cells #[.int .i16 (-15929), .int .i16 5759] 40))
  replace Rb := Lib.hid (Rb.out.push (.cells #[.int .i16 (-15929), .int .i16 5759] 40))
  refine (sameInts A3 _ [-15929, 5759] 2 c3 2 rfl _ Ia.out (IntsAt.lit1 w6 _ 40 .i16 [-15929, 5759] [.int .i16 (-15929), .int .i16 (5759)] rfl) (by omega)).mono ?_
  rintro e w7 ⟨rfl, hb7⟩
  replace U := Lib.hid (U.out.later hb7)
  replace Ia := Lib.hid (Ia.out.later hb7)
  replace Ib := Lib.hid (Ib.out.later hb7)
  replace Rb := Lib.hid (Rb.out.later hb7)
  clear hb7
  go_wp2_with fail
  replace U := Lib.hid (U.out.push (.cells #[.int .i16 0, .int .i16 0] 40))
  replace Ia := Lib.hid (Ia.out.push (.cells #[.int .i16 0, .int .i16 0] 40))
  replace Ib := Lib.hid (Ib.out.push (.cells #[.int .i16 0, .int .i16 0] 40))
  replace Rb := Lib.hid (Rb.out.push (.cells #[.int .i16 0, .int .i16 0] 40))
  refine (sameInts A4 _ [0, 0] 2 c4 2 rfl _ Ib.out (IntsAt.lit0 w7 40 .i16 [0, 0] [.int .i16 (0), .int .i16 (0)] rfl) (by omega)).mono ?_
  rintro e w8 ⟨rfl, hb8⟩
  replace U := Lib.hid (U.out.later hb8)
  replace Ia := Lib.hid (Ia.out.later hb8)
  replace Ib := Lib.hid (Ib.out.later hb8)
  replace Rb := Lib.hid (Rb.out.later hb8)
  clear hb8
  go_wp2_with fail
  replace U := Lib.hid (U.out.push (.cells #[.int .u8 6, .bool true, .int .u32 2000, .int .i64 0] 70))
  replace Ia := Lib.hid (Ia.out.push (.cells #[.int .u8 6, .bool true, .int .u32 2000, .int .i64 0] 70))
  replace Ib := Lib.hid (Ib.out.push (.cells #[.int .u8 6, .bool true, .int .u32 2000, .int .i64 0] 70))
  replace Rb := Lib.hid (Rb.out.push (.cells #[.int .u8 6, .bool true, .int .u32 2000, .int .i64 0] 70))
  refine (same29 A6 _ [⟨6, true, 2000, 0⟩] 1 c6 1 rfl _ Rb.out (RowsAt.lit0 w8 70 Ev.Key.row [⟨6, true, 2000, 0⟩] #[.int .u8 6, .bool true, .int .u32 2000, .int .i64 0] rfl (fun _ => rfl)) (by omega)).mono ?_
  rintro e w9 ⟨rfl, hb9⟩
  replace U := Lib.hid (U.out.later hb9)
  replace Ia := Lib.hid (Ia.out.later hb9)
  replace Ib := Lib.hid (Ib.out.later hb9)
  replace Rb := Lib.hid (Rb.out.later hb9)
  clear hb9
  go_wp2_with fail
  have U9 := Lib.hid U.out
  replace U := Lib.hid (U.out.push (.cells #[.int .i16 0] 40))
  replace Ia := Lib.hid (Ia.out.push (.cells #[.int .i16 0] 40))
  replace Ib := Lib.hid (Ib.out.push (.cells #[.int .i16 0] 40))
  replace Rb := Lib.hid (Rb.out.push (.cells #[.int .i16 0] 40))
  refine (k7.out _ _ (IntsAt.lit0 w9 40 .i16 [0] [.int .i16 (0)] rfl)).mono ?_
  rintro e w10 ⟨rfl, rfl⟩
  go_wp2_with fail
  replace U := Lib.hid (U.out.push (.cells #[.int .i16 (-32768)] 40))
  replace Ia := Lib.hid (Ia.out.push (.cells #[.int .i16 (-32768)] 40))
  replace Ib := Lib.hid (Ib.out.push (.cells #[.int .i16 (-32768)] 40))
  replace Rb := Lib.hid (Rb.out.push (.cells #[.int .i16 (-32768)] 40))
  refine (k8.out _ _ (IntsAt.lit1 w9 _ 40 .i16 [-32768] [.int .i16 (-32768)] rfl)).mono ?_
  rintro e w11 ⟨rfl, rfl⟩
  go_wp2_with fail
  refine (lives29 _).mono ?_
  rintro e w10 ⟨rfl, hb10⟩
  replace U := Lib.hid (U.out.later hb10)
  replace Ia := Lib.hid (Ia.out.later hb10)
  replace Ib := Lib.hid (Ib.out.later hb10)
  replace Rb := Lib.hid (Rb.out.later hb10)
  clear hb10
  go_wp2_with fail
  go_ret
  exact ⟨rfl, U.out⟩
end Go.Proofs.Ytangooegialmcaa.eventsKnown
