/- Layer 29: Amplitude, Noise of the program and of the reference. -/
import Derived.Test.YtangooegialmcaaEvLevel
namespace Go.Proofs.Ytangooegialmcaa
open Go.RowKit
set_option linter.unusedVariables false
set_option linter.unusedSimpArgs false
attribute [local go_sem] setCell_drewN alloc_drewN
theorem Ev.amp_bd : ∀ k, 0 ≤ Ev.amp k ∧ Ev.amp k ≤ 32767
  | 0 => by decide
  | k + 1 => by
    have := Ev.amp_bd k
    unfold Ev.amp
    omega
theorem Ev.amp_pow : ∀ k : Fin 43, (32767 : Int) / 2 ^ k.val = Ev.amp k.val := by decide +kernel
theorem Ev.info_i16 : (Try.prog.info? 40).map (fun i => (i.zero, i.size, i.bytes)) = some (some (.int .i16 0), 1, 2) := by kernel_rfl
theorem Ev.seed_bd (s : Int) (h0 : 0 ≤ s) (h1 : s ≤ 4294967295) : ∀ k, 0 ≤ Ev.seed s k ∧ Ev.seed s k ≤ 4294967295
  | 0 => ⟨h0, h1⟩
  | k + 1 => by unfold Ev.seed; omega
theorem Ev.nsamp_bd (a s : Int) (ha : 0 ≤ a) (k : Nat) : -a ≤ Ev.nsamp a s k ∧ Ev.nsamp a s k ≤ a := by
  unfold Ev.nsamp
  have h1 := Int.emod_nonneg (Ev.seed s (k + 1) / 65536) (b := 2 * a + 1) (by omega)
  have h2 := Int.emod_lt_of_pos (Ev.seed s (k + 1) / 65536) (b := 2 * a + 1) (by omega)
  omega
section
variable (l s n : Int) (w : World)
set_option maxHeartbeats 400000 in
theorem Amplitude_any (h0 : 0 ≤ l) (h1 : l ≤ 255) :
    Calls Try.prog 31 #[.int .u8 l] w fun e w' => e = .returned (.int .i64 (Ev.amp (l / 6).toNat)) ∧ w = w' := by
  obtain ⟨m, hm⟩ := Int.eq_ofNat_of_zero_le (a := l / 6) (by omega)
  rw [hm, Int.toNat_natCast]
  have HM := Lib.hid hm
  clear hm
  go_enter Try.func31, Try.ntmps31
  go_wp2
  go_loop [3, 4] (fun a i => ∃ k : Nat, k ≤ m ∧ i = .int .i64 k ∧ a = .int .i64 (Ev.amp k)) (fun _ i => m - (intOf i).toNat)
  case atStart => exact ⟨0, Nat.zero_le _, rfl, rfl⟩
  case round =>
    obtain ⟨k, hk, rfl, rfl⟩ := hrel
    have ha := Ev.amp_bd k
    have hs : Ev.amp (k + 1) = Ev.amp k / 2 := rfl
    have HS := Lib.hid hs
    clear hs
    generalize hga : Ev.amp k = a at *
    have HGA := Lib.hid hga
    clear hga
    obtain ⟨a0, a1⟩ := ha
    have hM := HM.out
    by_cases hlt : (k : Int) < m
    · go_wp2
      go_round
      case rel => exact ⟨k + 1, by omega, by go_num, by rw [HS.out]⟩
      case measure => simp [intOf]; omega
    · obtain rfl : k = m := by omega
      go_wp2
      go_ret
      exact ⟨ret_int' HGA.out.symm, rfl⟩
set_option maxHeartbeats 400000 in
theorem Noise_range (hn : n < 0 ∨ 8000 < n) :
    Calls Try.prog 28 #[.int .u8 l, .int .u32 s, .int .i64 n] w fun e w' => e = .returned (.tuple #[.slice none 0 0, .int .u32 0, .int .u8 3]) ∧ Below w.heap.size w w' := by
  rcases hn with hn | hn
  all_goals
    go_enter Try.func28, Try.ntmps28
    go_wp2
    go_ret3
    exact ⟨rfl, Below.refl _ _⟩
set_option maxHeartbeats 400000 in
theorem rNoise_range (hn : n < 0 ∨ 8000 < n) :
    Calls Try.prog 29 #[.int .u8 l, .int .u32 s, .int .i64 n] w fun e w' => e = .returned (.tuple #[.slice none 0 0, .int .u32 0, .int .u8 3]) ∧ Below w.heap.size w w' := by
  rcases hn with hn | hn
  all_goals
    go_enter Try.func29, Try.ntmps29
    go_wp2
    go_ret3
    exact ⟨rfl, Below.refl _ _⟩
theorem Ev.seed_wrap (x : Int) : (IntKind.u32.wrap (1103515245 * x) + 12345) % 4294967296 = (x * 1103515245 + 12345) % 4294967296 := by
  simp [IntKind.wrap, IntKind.bits, IntKind.signed]
  omega
def NoiseR (a s : Int) (m : Nat) (w : World) (e : Ending) (w' : World) : Prop :=
  ∃ (A' : Option Addr) (c' : Nat), e = .returned (.tuple #[.slice A' m c', .int .u32 (Ev.seed s m), .int .u8 0]) ∧ IntsAt w' w'.heap.size .i16 A' ((List.range m).map fun k => Ev.nsamp a s k) ∧ Below w.heap.size w w'
set_option maxHeartbeats 800000 in
theorem Noise_ok (m : Nat) (h0 : 0 ≤ l) (h1 : l ≤ 255) (s0 : 0 ≤ s) (s1 : s ≤ 4294967295) (hm : m ≤ 8000) :
    Calls Try.prog 28 #[.int .u8 l, .int .u32 s, .int .i64 m] w (NoiseR (Ev.amp (l / 6).toNat) s m w) := by
  obtain ⟨p, hp⟩ := Int.eq_ofNat_of_zero_le (a := l / 6) (by omega)
  have hsh : (32767 : Int) / 2 ^ p = Ev.amp p := Ev.amp_pow ⟨p, by omega⟩
  have hmk := run_make_row' (P := Try.prog) 37 40 (.int .i16 0) 2 Try.underlying37 Ev.info_i16 rfl .i64 .i64 m (by omega) (by omega) w
  obtain ⟨W1, hW1⟩ : ∃ W1, W1 = w.alloc (.cells (madeCells #[.int .i16 0] m) 40) := ⟨_, rfl⟩
  have hrow : W1.rowIs w.heap.size 40 m (fun _ => .int .i16 0) := by rw [hW1]; exact World.rowIs_made w _ _ _
  have hbel : Below w.heap.size w W1 := by rw [hW1]; exact (Below.refl _ _).alloc (Nat.le_refl _) _
  rw [← hW1] at hmk
  clear hW1
  rw [hp, Int.toNat_natCast]
  have ha := Ev.amp_bd p
  obtain ⟨a0, a1⟩ := ha
  generalize Ev.amp p = a at *
  go_enter Try.func28, Try.ntmps28
  go_wp2
  go_loopw [1, 24] (fun sd i wr => ∃ k : Nat, k ≤ m ∧ i = .int .i64 k ∧ sd = .int .u32 (Ev.seed s k) ∧ wr.rowIs w.heap.size 40 m (fun j => .int .i16 (if j < k then Ev.nsamp a s j else 0)) ∧ Below w.heap.size w wr) (fun _ i _ => m - (intOf i).toNat)
  case atStart => exact ⟨0, Nat.zero_le _, rfl, rfl, hrow.congr (by simp), hbel⟩
  case round =>
    obtain ⟨k, hk, rfl, rfl, hr, hb⟩ := hrel
    clear hrow hbel hmk
    by_cases hlt : k < m
    · have hcr : wr.cell? ⟨w.heap.size, k, none⟩ = some (.int .i16 0) := by rw [hr.cell hlt]; simp
      have hfr := hr.frozen k
      have hsb := Ev.seed_bd s s0 s1 k
      obtain ⟨b0, b1⟩ := hsb
      have hss : Ev.seed s (k + 1) = (Ev.seed s k * 1103515245 + 12345) % 4294967296 := rfl
      have hns : Ev.nsamp a s k = Ev.seed s (k + 1) / 65536 % (2 * a + 1) - a := rfl
      have hnb := Ev.nsamp_bd a s a0 k
      have HR := Lib.hid hr
      have HSS := Lib.hid hss
      have HNS := Lib.hid hns
      have HNB := Lib.hid hnb
      have hi0 : (0 : Int) ≤ (k : Int) := by omega
      have hi1 : (k : Int) < (m : Int) := by omega
      clear hr hss hns hnb
      generalize Ev.seed s k = x at *
      have hv : IntKind.i16.wrap (wrap64 ((1103515245 * x + 12345) % 4294967296 / 65536 % (2 * a + 1) - a)) = Ev.nsamp a s k := by
        have h1 := HNB.out
        rw [HNS.out, HSS.out, show x * 1103515245 + 12345 = 1103515245 * x + 12345 by omega] at h1 ⊢
        rw [IntWalk.wrap64_in _ ⟨by omega, by omega⟩]
        simp only [IntKind.wrap, IntKind.bits, IntKind.signed]
        simp
        omega
      have HV := Lib.hid hv
      clear hv
      go_wp2
      go_roundw
      case rel =>
        refine ⟨k + 1, by omega, by go_num, ?_, ?_, hb.setCell (Nat.le_refl _) _⟩
        · rw [HSS.out]; congr 1; omega
        · rw [HV.out]; exact rowIs_fill (g := fun j => Ev.nsamp a s j) HR.out
      case measure => simp [intOf]; omega
    · obtain rfl : k = m := by omega
      have HR := Lib.hid hr
      clear hr
      go_wp2
      go_ret3
      refine ⟨_, _, rfl, ?_, hb⟩
      refine IntsAt.of_row HR.out (by simp) fun i hi => ?_
      have hi' : i < k := by simpa using hi
      rw [if_pos hi']
      simp [List.getD_eq_getElem?_getD, List.getElem?_range hi']
set_option maxHeartbeats 1600000 in
theorem rNoise_ok (m : Nat) (h0 : 0 ≤ l) (h1 : l ≤ 255) (s0 : 0 ≤ s) (s1 : s ≤ 4294967295) (hm : m ≤ 8000) :
    Calls Try.prog 29 #[.int .u8 l, .int .u32 s, .int .i64 m] w (NoiseR (Ev.amp (l / 6).toNat) s m w) := by
  have k1 := Lib.hid fun W => Amplitude_any l W h0 h1
  have ha := Ev.amp_bd (l / 6).toNat
  obtain ⟨a0, a1⟩ := ha
  generalize Ev.amp (l / 6).toNat = a at *
  go_enter Try.func29, Try.ntmps29
  go_wp2_with (go_at_call 31; refine (k1.out _).mono ?_; rintro e w1 ⟨rfl, rfl⟩)
  go_loopw [10, 11, 12] (fun sd o i wr => ∃ (k : Nat) (A' : Option Addr) (c' : Nat), k ≤ m ∧ i = .int .i64 k ∧ sd = .int .u64 (Ev.seed s k) ∧ o = .slice A' k c' ∧ Owns wr w.heap.size 40 1 A' k c' ((List.range k).map fun j => Value.int .i16 (Ev.nsamp a s j)) ∧ Below w.heap.size w wr) (fun _ _ i _ => m - (intOf i).toNat)
  case atStart => exact ⟨0, none, 0, Nat.zero_le _, rfl, rfl, rfl, Owns.nil, Below.refl _ _⟩
  case round =>
    obtain ⟨k, A', c', hk, rfl, rfl, rfl, ho, hb⟩ := hrel
    by_cases hlt : k < m
    · have hsb := Ev.seed_bd s s0 s1 k
      obtain ⟨b0, b1⟩ := hsb
      have hss : Ev.seed s (k + 1) = (Ev.seed s k * 1103515245 + 12345) % 4294967296 := rfl
      have hns : Ev.nsamp a s k = Ev.seed s (k + 1) / 65536 % (2 * a + 1) - a := rfl
      have hnb := Ev.nsamp_bd a s a0 k
      have HO := Lib.hid ho
      have HB := Lib.hid hb
      have hbs := hb.size
      have HSS := Lib.hid hss
      have HNS := Lib.hid hns
      have HNB := Lib.hid hnb
      have hi0 : (0 : Int) ≤ (k : Int) := by omega
      have hi1 : (k : Int) < (m : Int) := by omega
      clear ho hb hss hns hnb
      generalize Ev.seed s k = x at *
      have hv : IntKind.i16.wrap (wrap64 ((x * 1103515245 + 12345) % 4294967296 / 65536 % (2 * a + 1) - a)) = Ev.nsamp a s k := by
        have h1 := HNB.out
        rw [HNS.out, HSS.out] at h1 ⊢
        rw [IntWalk.wrap64_in _ ⟨by omega, by omega⟩]
        simp only [IntKind.wrap, IntKind.bits, IntKind.signed]
        simp
        omega
      have HV := Lib.hid hv
      clear hv
      go_wp2_with (at_builtin; go_loud (refine wpList_append_one rfl _ _ 37 rfl w.heap.size 40 1 2 (.int .i16 0) Try.underlying37 Ev.info_i16 rfl (by decide) A' k c' _ rfl HO.out [.int .i16 _] rfl (by simp [Value.oneCell']) rfl (by unfold maxLen; omega) (by omega) hbs ?_); intro A2 c2 w2 hown2 hg2 hlt2)
      go_roundw
      case rel =>
        refine ⟨k + 1, A2, c2, by omega, by go_num, ?_, rfl, ?_, below_own HB.out HO.out hg2 hbs (Nat.le_refl _)⟩
        · rw [HSS.out]
        · rw [List.range_succ, List.map_append, List.map_singleton]
          rw [HV.out] at hown2
          exact hown2
      case measure => simp [intOf]; omega
    · obtain rfl : k = m := by omega
      have HO := Lib.hid ho
      have HB := Lib.hid hb
      have hsb := Ev.seed_bd s s0 s1 k
      obtain ⟨b0, b1⟩ := hsb
      clear ho hb
      go_wp2
      go_ret3
      refine ⟨_, _, rfl, ?_, HB.out⟩
      have h := HO.out
      rw [show ((List.range k).map fun j => Value.int .i16 (Ev.nsamp a s j)) = ((List.range k).map fun j => Ev.nsamp a s j).map (Value.int .i16) by simp] at h
      exact h.ints
end
end Go.Proofs.Ytangooegialmcaa
