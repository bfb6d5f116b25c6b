/- Layer 29, EventsNoise: for every level, seed, number and cut the law returns true. -/
import Derived.Test.YtangooegialmcaaEvLives
import Derived.Test.YtangooegialmcaaSame27
import Derived.Test.YtangooegialmcaaApp
namespace Go.Proofs.Ytangooegialmcaa.eventsNoise
open Go.RowKit
set_option linter.unusedVariables false
set_option linter.unusedSimpArgs false
theorem seed_add (s : Int) (k : Nat) : ∀ j, Ev.seed (Ev.seed s k) j = Ev.seed s (k + j)
  | 0 => rfl
  | j + 1 => by
    rw [show k + (j + 1) = (k + j) + 1 by omega]
    unfold Ev.seed
    rw [seed_add s k j]
theorem nsamp_add (a s : Int) (k j : Nat) : Ev.nsamp a (Ev.seed s k) j = Ev.nsamp a s (k + j) := by
  unfold Ev.nsamp
  rw [seed_add, Nat.add_assoc]
theorem split_range (f : Nat → Int) (m n : Nat) (h : n ≤ m) : (List.range n).map f ++ (List.range (m - n)).map (fun j => f (n + j)) = (List.range m).map f := by
  refine List.ext_getElem? fun i => ?_
  by_cases h1 : i < n
  · rw [List.getElem?_append_left (by simpa using h1)]
    simp [List.getElem?_map, List.getElem?_range h1, List.getElem?_range (show i < m by omega)]
  · rw [List.getElem?_append_right (by simp; omega)]
    by_cases h2 : i < m
    · simp [List.getElem?_range (show i - n < m - n by omega), List.getElem?_range h2]
      congr 1; omega
    · rw [List.getElem?_eq_none (by simp; omega), List.getElem?_eq_none (by simp; omega)]
theorem getD_samp (a s : Int) (m k : Nat) (h : k < m) : ((List.range m).map fun k => Ev.nsamp a s k).getD k 0 = Ev.nsamp a s k := by
  simp [List.getD_eq_getElem?_getD, List.getElem?_range h]
set_option maxHeartbeats 800000 in
theorem range (w : World) (l s n cut : Int) (hn : n < 0 ∨ 8000 < n) :
    Calls Try.prog 9 #[.int .u8 l, .int .u32 s, .int .i64 n, .int .u16 cut] w fun e w' => e = .returned (.bool true) ∧ Below w.heap.size w w' := by
  have k1 := Lib.hid fun W => Noise_range l s n W hn
  have k2 := Lib.hid fun W => rNoise_range l s n W hn
  clear hn
  go_enter Try.func9, Try.ntmps9
  have U := Lib.hid (Bel.refl w)
  go_wp2_with fail
  refine (k1.out _).mono ?_
  rintro e w1 ⟨rfl, hb1⟩
  replace U := Lib.hid (U.out.later hb1)
  clear hb1
  go_wp2_with fail
  refine (k2.out _).mono ?_
  rintro e w2 ⟨rfl, hb2⟩
  replace U := Lib.hid (U.out.later hb2)
  clear hb2
  go_wp2_with fail
  refine (sameInts none none [] 0 0 0 rfl _ IntsAt.nil IntsAt.nil (by omega)).mono ?_
  rintro e w3 ⟨rfl, hb3⟩
  replace U := Lib.hid (U.out.later hb3)
  clear hb3
  go_wp2_with fail
  refine (lives29 _).mono ?_
  rintro e w4 ⟨rfl, hb4⟩
  replace U := Lib.hid (U.out.later hb4)
  clear hb4
  go_wp2_with fail
  go_ret
  exact ⟨rfl, U.out⟩
set_option maxRecDepth 100000 in
set_option maxHeartbeats 3200000 in
theorem ok (w : World) (l s cut : Int) (m n : Nat) (l0 : 0 ≤ l) (l1 : l ≤ 255) (s0 : 0 ≤ s) (s1 : s ≤ 4294967295) (hm : m ≤ 8000) (hc : cut % ((m : Int) + 1) = n) (c0 : 0 ≤ cut) (c1 : cut ≤ 65535) (hn : n ≤ m) :
    Calls Try.prog 9 #[.int .u8 l, .int .u32 s, .int .i64 m, .int .u16 cut] w fun e w' => e = .returned (.bool true) ∧ Below w.heap.size w w' := by
  have k1 := Lib.hid fun W => Noise_ok l s W m l0 l1 s0 s1 hm
  have k2 := Lib.hid fun W => rNoise_ok l s W m l0 l1 s0 s1 hm
  have k3 := Lib.hid fun W => Amplitude_any l W l0 l1
  have k4 := Lib.hid fun W => Noise_ok l s W n l0 l1 s0 s1 (by omega)
  obtain ⟨b0, b1⟩ := Ev.seed_bd s s0 s1 n
  have k5 := Lib.hid fun W => Noise_ok l (Ev.seed s n) W (m - n) l0 l1 b0 b1 (by omega)
  obtain ⟨a0, a1⟩ := Ev.amp_bd (l / 6).toNat
  generalize Ev.amp (l / 6).toNat = a at *
  have hsd : Ev.seed (Ev.seed s n) (m - n) = Ev.seed s m := by rw [seed_add]; congr 1; omega
  have hsp : ((List.range n).map fun k => Ev.nsamp a s k) ++ ((List.range (m - n)).map fun k => Ev.nsamp a (Ev.seed s n) k) = ((List.range m).map fun k => Ev.nsamp a s k) := by
    rw [← split_range (fun k => Ev.nsamp a s k) m n hn]
    congr 1
    exact List.map_congr_left fun j _ => nsamp_add a s n j
  have HSD := Lib.hid hsd
  have HSP := Lib.hid hsp
  have HC := Lib.hid hc
  have hL : ((List.range m).map fun k => Ev.nsamp a s k).length = m := by simp
  have HL := Lib.hid hL
  clear hsd hsp hc hL s0 s1 b0 b1
  go_enter Try.func9, Try.ntmps9
  have U := Lib.hid (Bel.refl w)
  go_wp2_with fail
  refine (k1.out _).mono ?_
  rintro e w1 ⟨A1, c1', rfl, ia_, hb1⟩
  replace U := Lib.hid (U.out.later hb1)
  clear hb1
  have Ia := Lib.hid ia_
  clear ia_
  go_wp2_with fail
  refine (k2.out _).mono ?_
  rintro e w2 ⟨A2, c2', rfl, ib_, hb2⟩
  replace U := Lib.hid (U.out.later hb2)
  replace Ia := Lib.hid (Ia.out.later hb2)
  clear hb2
  have Ib := Lib.hid ib_
  clear ib_
  go_wp2_with fail
  refine (sameInts A1 A2 _ m c1' c2' HL.out _ Ia.out Ib.out (by omega)).mono ?_
  rintro e w3 ⟨rfl, hb3⟩
  replace U := Lib.hid (U.out.later hb3)
  replace Ia := Lib.hid (Ia.out.later hb3)
  replace Ib := Lib.hid (Ib.out.later hb3)
  clear hb3
  go_wp2_with fail
  refine (k3.out _).mono ?_
  rintro e w4 ⟨rfl, rfl⟩
  go_wp2_with fail
  go_loop [16] (fun i => ∃ k : Nat, k ≤ m ∧ i = .int .i64 k) (fun i => m - (intOf i).toNat)
  case atStart => exact ⟨0, Nat.zero_le _, rfl⟩
  case round =>
    obtain ⟨k, hk, rfl⟩ := hrel
    by_cases hlt : k < m
    · obtain ⟨b, off, rfl, hbB, hcell⟩ := Ia.out (by rw [HL.out]; omega)
      have hz := hcell k (by rw [HL.out]; exact hlt)
      rw [getD_samp a s m k hlt] at hz
      obtain ⟨z0, z1⟩ := Ev.nsamp_bd a s a0 k
      clear hcell
      generalize Ev.nsamp a s k = z at *
      have hi0 : (0 : Int) ≤ (k : Int) := by omega
      have hi1 : (k : Int) < (m : Int) := by omega
      have t1 : decide (a < z) = false := by simp; omega
      have t2 : decide (z < -a) = false := by simp; omega
      go_wp2
      go_round
      case rel => exact ⟨k + 1, by omega, by go_num⟩
      case measure => simp [intOf]; omega
    · have hk2 : (m : Int) ≤ (k : Int) := by omega
      go_wp2_with fail
      rw [HC.out]
      refine (k4.out _).mono ?_
      rintro e w4 ⟨A5, c5, rfl, ic_, hb4⟩
      replace U := Lib.hid (U.out.later hb4)
      replace Ia := Lib.hid (Ia.out.later hb4)
      replace Ib := Lib.hid (Ib.out.later hb4)
      clear hb4
      have Ic := Lib.hid ic_
      clear ic_
      go_wp2_with fail
      rw [show (m : Int) - (n : Int) = ((m - n : Nat) : Int) by omega]
      refine (k5.out _).mono ?_
      rintro e w5 ⟨A6, c6, rfl, id_, hb5⟩
      replace U := Lib.hid (U.out.later hb5)
      replace Ia := Lib.hid (Ia.out.later hb5)
      replace Ib := Lib.hid (Ib.out.later hb5)
      replace Ic := Lib.hid (Ic.out.later hb5)
      clear hb5
      have Id := Lib.hid id_
      clear id_
      rw [HSD.out]
      have hl1 : ((List.range n).map fun k => Ev.nsamp a s k).length = n := by simp
      have hl2 : ((List.range (m - n)).map fun k => Ev.nsamp a (Ev.seed s n) k).length = m - n := by simp
      have HL1 := Lib.hid hl1
      have HL2 := Lib.hid hl2
      clear hl1 hl2
      have hbase : w.heap.size ≤ w5.heap.size := U.out.size
      go_wp2_with (first
        | (at_builtin
           refine wpList_append_ints rfl (.tmp 106) (.tmp 107) 37 rfl w.heap.size 40 2 (.int .i16 0) Try.underlying37 (by kernel_rfl) rfl none 0 0 [] rfl Owns.nil _ .i16 A5 c5 ((List.range n).map fun k => Ev.nsamp a s k) (by rw [HL1.out]; rfl) Ic.out (by rw [HL1.out]; unfold maxLen; omega) (by rw [HL1.out]; omega) hbase n (by rw [HL1.out]; omega) ?_
           intro A7 c7 w7 hown7 hg7 hat7
           have hb7' : Below w5.heap.size w5 w7 := (Below.refl _ _).grown hg7 (Nat.le_refl _) (fun g e => by simp [ownB] at e))
        | (at_builtin
           refine wpList_append_ints rfl (.tmp 109) (.tmp 110) 37 rfl w.heap.size 40 2 (.int .i16 0) Try.underlying37 (by kernel_rfl) rfl A7 n c7 _ rfl hown7 _ .i16 A6 c6 ((List.range (m - n)).map fun k => Ev.nsamp a (Ev.seed s n) k) (by rw [HL2.out]; rfl) (Id.out.later hb7') (by rw [HL2.out]; unfold maxLen; omega) (by rw [HL2.out]; omega) (Nat.le_trans hbase hb7'.size) m (by rw [HL2.out]; omega) ?_
           intro A8 c8 w8 hown8 hg8 hat8
           have hb8' : Below w5.heap.size w5 w8 := hb7'.grown hg8 hb7'.size (own_late hat7)))
      have hown9 := hown8
      rw [List.nil_append, ← List.map_append, HSP.out] at hown9
      have I8 := IntsAt.of_own hown9
      refine (sameInts A8 A1 _ m c8 c1' HL.out _ I8 (Ia.out.later hb8') (by omega)).mono ?_
      rintro e w9 ⟨rfl, hb9⟩
      go_wp2_with fail
      refine (lives29 _).mono ?_
      rintro e w10 ⟨rfl, hb10⟩
      go_wp2_with fail
      go_ret
      exact ⟨rfl, ((U.out.later hb8').later hb9).later hb10⟩
theorem walk (w : World) (l : Int) (h1 : (Lit.int .u8 l).wf = true) (s : Int) (h2 : (Lit.int .u32 s).wf = true) (n : Int) (h3 : (Lit.int .i64 n).wf = true) (cut : Int) (h4 : (Lit.int .u16 cut).wf = true) :
    Calls Try.prog 9 #[.int .u8 l, .int .u32 s, .int .i64 n, .int .u16 cut] w fun e w' => e = .returned (.bool true) ∧ Below w.heap.size w w' := by
  have hl : 0 ≤ l ∧ l ≤ 255 := by simpa [Lit.wf, IntKind.min, IntKind.max, IntKind.signed, IntKind.bits] using h1
  have hs : 0 ≤ s ∧ s ≤ 4294967295 := by simpa [Lit.wf, IntKind.min, IntKind.max, IntKind.signed, IntKind.bits] using h2
  have hc : 0 ≤ cut ∧ cut ≤ 65535 := by simpa [Lit.wf, IntKind.min, IntKind.max, IntKind.signed, IntKind.bits] using h4
  by_cases hn : n < 0 ∨ 8000 < n
  · exact range w l s n cut hn
  · obtain ⟨m, rfl⟩ := Int.eq_ofNat_of_zero_le (a := n) (by omega)
    have e1 := Int.emod_nonneg cut (b := (m : Int) + 1) (by omega)
    have e2 := Int.emod_lt_of_pos cut (b := (m : Int) + 1) (by omega)
    obtain ⟨k, hk⟩ := Int.eq_ofNat_of_zero_le e1
    exact ok w l s cut m k hl.1 hl.2 hs.1 hs.2 (by omega) hk hc.1 hc.2 (by omega)
end Go.Proofs.Ytangooegialmcaa.eventsNoise
