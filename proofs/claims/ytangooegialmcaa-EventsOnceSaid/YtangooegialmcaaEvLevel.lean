/- Layer 29: Level of the program and of the reference; Silence. -/
import Derived.Test.YtangooegialmcaaEvPlain
import Derived.Test.YtangooegialmcaaLaw
import Derived.Test.YtangooegialmcaaRes
import Derived.Test.YtangooegialmcaaShelf
import Derived.Deep.QuietTactic
import Derived.BigQuiet
namespace Go.Proofs.Ytangooegialmcaa
open Go.RowKit
set_option linter.unusedVariables false
set_option linter.unusedSimpArgs false
attribute [local go_sem ↓] run_min_plain run_max_plain
attribute [local go_sem] setCell_drewN alloc_drewN
theorem Ev.u64_in (x : Int) (h0 : 0 ≤ x) (h1 : x ≤ 9223372036854775807) : IntKind.u64.wrap x = x := by
  simp [IntKind.wrap, IntKind.bits, IntKind.signed]
  omega
theorem Ev.i64_in' (x : Int) (h0 : -4611686018427387904 ≤ x) (h1 : x ≤ 4611686018427387904) : IntKind.i64.wrap x = x := by
  simp [IntKind.wrap, IntKind.bits, IntKind.signed]
  omega
theorem ret_int' {k : IntKind} {a b : Int} (h : a = b) : Ending.returned (.int k a) = .returned (.int k b) := by rw [h]
section
variable (A : Option Addr) (zs : List Int) (cap : Nat) (w : World)
theorem Ev.sum_step (zs : List Int) (hz : Within (-32768) 32767 zs) (k : Nat) (h : k < zs.length) : (Ev.sumSq (zs.take (k + 1)) : Int) = (Ev.sumSq (zs.take k) : Int) + zs.getD k 0 * zs.getD k 0 ∧ 0 ≤ zs.getD k 0 * zs.getD k 0 ∧ zs.getD k 0 * zs.getD k 0 ≤ 1073741824 ∧ (Ev.sumSq (zs.take k) : Int) ≤ k * 1073741824 := by
  obtain ⟨z0, z1⟩ := hz.at h
  have hs := Ev.sq_bd _ z0 z1
  have h2 := Ev.sumSq_take zs k h
  have h3 := Ev.sumSq_bd (zs.take k) (hz.take k)
  have h4 : (zs.take k).length = k := by simp; omega
  rw [h4] at h3
  omega
set_option maxHeartbeats 800000 in
theorem Level_any (hA : IntsAt w w.heap.size .i16 A zs) (hz : Within (-32768) 32767 zs) (hl : zs.length ≤ 8000) :
    Calls Try.prog 16 #[.slice A zs.length cap] w fun e w' => e = .returned (.int .u8 (Ev.lev zs)) ∧ w = w' := by
  by_cases h0 : zs.length = 0
  · obtain rfl := List.eq_nil_of_length_eq_zero h0
    clear h0
    go_enter Try.func16, Try.ntmps16
    go_wp2
    go_ret
    exact ⟨rfl, rfl⟩
  · obtain ⟨b, off, rfl, hb, hcell⟩ := hA (by omega)
    have hmean := Ev.mean_bd zs hz
    have hbd := Ev.sumSq_bd zs hz
    have hL : Ev.lev zs = if Ev.sumSq zs / zs.length = 0 then 127 else 3 * (30 - (Nat.log2 (Ev.sumSq zs / zs.length) : Int)) := by unfold Ev.lev; rw [if_neg h0]
    have HL := Lib.hid hL
    have HZ := Lib.hid hz
    have h0' : ((zs.length : Int) == 0) = false := by simpa using h0
    have h1 : 1 ≤ (zs.length : Int) := by omega
    clear hL hz hA h0
    go_enter Try.func16, Try.ntmps16
    go_wp2
    go_loop [3, 12] (fun s i => ∃ k : Nat, k ≤ zs.length ∧ i = .int .i64 k ∧ s = .int .u64 (Ev.sumSq (zs.take k))) (fun _ i => zs.length - (intOf i).toNat)
    case atStart => exact ⟨0, Nat.zero_le _, rfl, rfl⟩
    case round =>
      obtain ⟨k, hk, rfl, rfl⟩ := hrel
      by_cases hlt : k < zs.length
      · have hc := hcell k hlt
        obtain ⟨s1, s2, s3, s4⟩ := Ev.sum_step zs HZ.out k hlt
        obtain ⟨z0, z1⟩ := HZ.out.at hlt
        have HS := Lib.hid s1
        have s5 : (0 : Int) ≤ (Ev.sumSq (zs.take k) : Int) := by omega
        clear hcell s1
        generalize zs.getD k 0 = z at *
        generalize (Ev.sumSq (zs.take k) : Int) = S at *
        have hi0 : (0 : Int) ≤ (k : Int) := by omega
        have hi1 : (k : Int) < (zs.length : Int) := by omega
        go_wp2
        go_round
        case rel => exact ⟨k + 1, by omega, by go_num, by rw [HS.out]⟩
        case measure => simp [intOf]; omega
      · obtain rfl : k = zs.length := by omega
        rw [List.take_length] at *
        have hq : (Ev.sumSq zs : Int) / (zs.length : Int) = ((Ev.sumSq zs / zs.length : Nat) : Int) := (Int.natCast_ediv _ _).symm
        have hq2 : (Ev.sumSq zs : Int).tdiv (zs.length : Int) = ((Ev.sumSq zs / zs.length : Nat) : Int) := by rw [Int.tdiv_eq_ediv_of_nonneg (by omega), hq]
        have HQ := Lib.hid hq2
        clear hq2
        have hS : (Ev.sumSq zs : Int) ≤ 8589934592000 := by omega
        clear hq hcell hbd
        obtain ⟨P, hP⟩ : ∃ P, P = Ev.sumSq zs / zs.length := ⟨_, rfl⟩
        rw [← hP] at HL HQ hmean
        clear hP
        by_cases hp : P = 0
        · subst hp
          have hq := HQ.out
          have hw := Ev.u64_in ((0 : Nat) : Int) (by omega) (by omega)
          have hlv := HL.out
          rw [if_pos rfl] at hlv
          have HLV := Lib.hid hlv
          clear hlv
          generalize (Ev.sumSq zs : Int) = S at *
          go_wp2
          go_ret
          exact ⟨ret_int' HLV.out.symm, rfl⟩
        · have hlv := HL.out
          rw [if_neg hp] at hlv
          have hb2 := Ev.log2_bd P hmean hp
          have hbl : (Lib.bitLen ((P : Nat) : Int).toNat : Int) = (Nat.log2 P : Int) + 1 := by
            rw [Int.toNat_natCast, Ev.bitLen_eq P (by omega), if_neg hp]; simp
          have HLV := Lib.hid hlv
          have HBL := Lib.hid hbl
          have hq := HQ.out
          have hw := Ev.u64_in (P : Int) (by omega) (by omega)
          clear hlv hbl
          generalize Nat.log2 P = L at *
          generalize (Ev.sumSq zs : Int) = S at *
          have hp' : ((P : Int) == 0) = false := by simpa using hp
          have k1 := Lib.hid fun W => Try.bits_Len64 (P : Int) W (by omega) (by omega)
          rw [HBL.out] at k1
          clear HBL
          go_wp2_with (go_at_call 37; refine (k1.out _).mono ?_; rintro e w1 ⟨rfl, rfl⟩)
          go_ret
          exact ⟨ret_int' (by rw [HLV.out]; omega), rfl⟩
theorem Ev.log2_half (q : Nat) (h : 2 ≤ q) : Nat.log2 q = Nat.log2 (q / 2) + 1 := by rw [Nat.log2_def q, if_pos h]
theorem Ev.log2_one (q : Nat) (h : 1 ≤ q) (h2 : q < 2) : Nat.log2 q = 0 := by
  have : q = 1 := by omega
  subst this; rfl
set_option maxHeartbeats 800000 in
theorem rLevel_any (hA : IntsAt w w.heap.size .i16 A zs) (hz : Within (-32768) 32767 zs) (hl : zs.length ≤ 8000) :
    Calls Try.prog 17 #[.slice A zs.length cap] w fun e w' => e = .returned (.int .u8 (Ev.lev zs)) ∧ Below w.heap.size w w' := by
  by_cases h0 : zs.length = 0
  · obtain rfl := List.eq_nil_of_length_eq_zero h0
    clear h0
    go_enter Try.func17, Try.ntmps17
    go_wp2
    go_ret
    exact ⟨rfl, Below.refl _ _⟩
  · obtain ⟨b, off, rfl, hb, hcell⟩ := hA (by omega)
    have hmean := Ev.mean_bd zs hz
    have hbd := Ev.sumSq_bd zs hz
    have hL : Ev.lev zs = if Ev.sumSq zs / zs.length = 0 then 127 else 3 * (30 - (Nat.log2 (Ev.sumSq zs / zs.length) : Int)) := by unfold Ev.lev; rw [if_neg h0]
    have HL := Lib.hid hL
    have HZ := Lib.hid hz
    have h0' : ((zs.length : Int) == 0) = false := by simpa using h0
    have h1 : 1 ≤ (zs.length : Int) := by omega
    clear hL hz hA h0
    go_enter Try.func17, Try.ntmps17
    go_wp2
    go_loopw [3, 4] (fun s i wr => ∃ k : Nat, k ≤ zs.length ∧ i = .int .i64 k ∧ s = .int .i64 (Ev.sumSq (zs.take k)) ∧ Below w.heap.size w wr) (fun _ i _ => zs.length - (intOf i).toNat)
    case atStart => exact ⟨0, Nat.zero_le _, rfl, rfl, Below.refl _ _⟩
    case round =>
      obtain ⟨k, hk, rfl, rfl, hbw⟩ := hrel
      by_cases hlt : k < zs.length
      · have hc : wr.cell? ⟨b, off + k, none⟩ = some (.int .i16 (zs.getD k 0)) := (hbw.cell (p := ⟨b, off + k, none⟩) hb).trans (hcell k hlt)
        obtain ⟨s1, s2, s3, s4⟩ := Ev.sum_step zs HZ.out k hlt
        obtain ⟨z0, z1⟩ := HZ.out.at hlt
        have HS := Lib.hid s1
        have s5 : (0 : Int) ≤ (Ev.sumSq (zs.take k) : Int) := by omega
        clear hcell s1
        generalize zs.getD k 0 = z at *
        generalize (Ev.sumSq (zs.take k) : Int) = S at *
        have hi0 : (0 : Int) ≤ (k : Int) := by omega
        have hi1 : (k : Int) < (zs.length : Int) := by omega
        have e1 : IntKind.i64.wrap z = z := Ev.i64_in' z (by omega) (by omega)
        have e2 : IntKind.i64.wrap (z * z) = z * z := Ev.i64_in' _ (by omega) (by omega)
        have e3 : IntKind.i64.wrap (S + z * z) = S + z * z := Ev.i64_in' _ (by omega) (by omega)
        go_wp2
        go_quiet (fail)
        go_wp2
        go_roundw
        case rel => exact ⟨k + 1, by omega, by go_num, by rw [HS.out], Bel.drewN hbw _⟩
        case measure => simp [intOf]; omega
      · obtain rfl : k = zs.length := by omega
        rw [List.take_length] at *
        have hq : (Ev.sumSq zs : Int) / (zs.length : Int) = ((Ev.sumSq zs / zs.length : Nat) : Int) := (Int.natCast_ediv _ _).symm
        have hq2 : (Ev.sumSq zs : Int).tdiv (zs.length : Int) = ((Ev.sumSq zs / zs.length : Nat) : Int) := by rw [Int.tdiv_eq_ediv_of_nonneg (by omega), hq]
        have HQ := Lib.hid hq2
        have hS : (Ev.sumSq zs : Int) ≤ 8589934592000 := by omega
        clear hq hq2 hcell hbd
        obtain ⟨P, hP⟩ : ∃ P, P = Ev.sumSq zs / zs.length := ⟨_, rfl⟩
        rw [← hP] at HL HQ hmean
        clear hP
        have HB := Lib.hid hbw
        clear hbw
        by_cases hp : P = 0
        · subst hp
          have hq := HQ.out
          have hw := Ev.i64_in' ((0 : Nat) : Int) (by omega) (by omega)
          have hlv := HL.out
          rw [if_pos rfl] at hlv
          have HLV := Lib.hid hlv
          clear hlv
          generalize (Ev.sumSq zs : Int) = S at *
          go_wp2
          go_ret
          exact ⟨ret_int' HLV.out.symm, HB.out⟩
        · have hlv := HL.out
          rw [if_neg hp] at hlv
          have hb2 := Ev.log2_bd P hmean hp
          have HLV := Lib.hid hlv
          have hq := HQ.out
          have hw := Ev.i64_in' (P : Int) (by omega) (by omega)
          clear hlv
          generalize hLP : Nat.log2 P = L at *
          have HLP := Lib.hid hLP
          clear hLP
          generalize (Ev.sumSq zs : Int) = S at *
          have hp' : ((P : Int) == 0) = false := by simpa using hp
          have hp1 : 1 ≤ P := by omega
          go_wp2
          go_loop [3, 5] (fun s i => ∃ q j : Nat, 1 ≤ q ∧ q ≤ P ∧ Nat.log2 q + j = L ∧ s = .int .i64 q ∧ i = .int .i64 j) (fun s _ => (intOf s).toNat)
          case atStart => exact ⟨P, 0, hp1, Nat.le_refl _, HLP.out, rfl, rfl⟩
          case round =>
            obtain ⟨q, j, q1, q2, q3, rfl, rfl⟩ := hrel
            by_cases hq2 : 2 ≤ q
            · have hh := Ev.log2_half q hq2
              have Q3 := Lib.hid q3
              have HH := Lib.hid hh
              have hj : j ≤ L := by omega
              have hq2' : (2 : Int) ≤ (q : Int) := by omega
              clear q3 hh
              go_wp2
              go_round
              case rel =>
                refine ⟨q / 2, j + 1, by omega, by omega, ?_, by go_num, by go_num⟩
                have h1 := Q3.out
                have h2 := HH.out
                omega
              case measure => simp [intOf]; omega
            · have hh := Ev.log2_one q q1 (by omega)
              have hj : j = L := by omega
              have hq2' : (q : Int) < 2 := by omega
              have HJ := Lib.hid hj
              have hjl : j ≤ L := by omega
              clear q3 hh hj
              go_wp2
              go_ret
              exact ⟨ret_int' (by rw [HLV.out, ← HJ.out]), HB.out⟩
end
end Go.Proofs.Ytangooegialmcaa
