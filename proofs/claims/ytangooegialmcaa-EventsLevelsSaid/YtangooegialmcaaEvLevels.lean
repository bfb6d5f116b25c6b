/- Layer 29, EventsLevels: for every frame and reductions the law returns true. -/
import Derived.Test.YtangooegialmcaaEvLives
import Derived.Test.YtangooegialmcaaLate
import Derived.Test.YtangooegialmcaaEvLevel
import Derived.Test.YtangooegialmcaaEvNoise
namespace Go.Proofs.Ytangooegialmcaa.eventsLevels
open Go.RowKit
set_option linter.unusedVariables false
set_option linter.unusedSimpArgs false
/-- the reduced sample -/
def gv (zs us : List Int) (k : Nat) : Int := IntKind.i16.wrap (if k < us.length then Int.tdiv (zs.getD k 0 * (us.getD k 0 - 32768)) 32768 else zs.getD k 0)
theorem wrap16_abs (v : Int) (h : v.natAbs ≤ 32768) : (IntKind.i16.wrap v).natAbs = v.natAbs := by
  simp only [IntKind.wrap, IntKind.bits, IntKind.signed]
  simp
  omega
theorem wrap16_bd (v : Int) : -32768 ≤ IntKind.i16.wrap v ∧ IntKind.i16.wrap v ≤ 32767 := by
  simp only [IntKind.wrap, IntKind.bits, IntKind.signed]
  simp
  omega
theorem red_abs (z u : Int) (u0 : 0 ≤ u) (u1 : u ≤ 65535) : (Int.tdiv (z * (u - 32768)) 32768).natAbs ≤ z.natAbs := by
  rw [Int.natAbs_tdiv, Int.natAbs_mul]
  have h : (u - 32768).natAbs ≤ 32768 := by omega
  have h2 := Nat.mul_le_mul_left z.natAbs h
  show z.natAbs * (u - 32768).natAbs / 32768 ≤ z.natAbs
  omega
theorem gv_abs (zs us : List Int) (hz : Within (-32768) 32767 zs) (hu : Within 0 65535 us) (k : Nat) (hk : k < zs.length) : (gv zs us k).natAbs ≤ (zs.getD k 0).natAbs := by
  obtain ⟨z0, z1⟩ := hz.at hk
  unfold gv
  by_cases h : k < us.length
  · obtain ⟨u0, u1⟩ := hu.at h
    rw [if_pos h]
    have := red_abs (zs.getD k 0) (us.getD k 0) u0 u1
    rw [wrap16_abs _ (by omega)]
    exact this
  · rw [if_neg h, wrap16_abs _ (by omega)]
    exact Nat.le_refl _
theorem sum_le (zs us : List Int) (hz : Within (-32768) 32767 zs) (hu : Within 0 65535 us) : ∀ k, k ≤ zs.length → Ev.sumSq ((List.range k).map (gv zs us)) ≤ Ev.sumSq (zs.take k)
  | 0, _ => by simp [Ev.sumSq]
  | k + 1, h => by
    have ih := sum_le zs us hz hu k (by omega)
    have h1 := Ev.sumSq_take zs k (by omega)
    have h2 : Ev.sumSq ((List.range (k + 1)).map (gv zs us)) = Ev.sumSq ((List.range k).map (gv zs us)) + (gv zs us k * gv zs us k).toNat := by
      rw [List.range_succ, List.map_append]
      unfold Ev.sumSq
      rw [List.map_append, List.sum_append]
      simp
    have h3 := gv_abs zs us hz hu k (by omega)
    have h4 := Nat.mul_le_mul h3 h3
    have h5 : (gv zs us k * gv zs us k).toNat = (gv zs us k).natAbs * (gv zs us k).natAbs := by rw [← Int.natAbs_mul_self, Int.toNat_natCast]
    have h6 : (zs.getD k 0 * zs.getD k 0).toNat = (zs.getD k 0).natAbs * (zs.getD k 0).natAbs := by rw [← Int.natAbs_mul_self, Int.toNat_natCast]
    omega
theorem log2_mono (a b : Nat) (h : a ≤ b) (h0 : a ≠ 0) : Nat.log2 a ≤ Nat.log2 b := by
  rcases Nat.lt_or_ge (Nat.log2 b) (Nat.log2 a) with h1 | h1
  · have h2 := (Nat.log2_lt (n := b) (by omega)).1 h1
    have h3 := Nat.log2_self_le h0
    omega
  · exact h1
theorem lev_mono (zs gs : List Int) (hl : gs.length = zs.length) (h : Ev.sumSq gs ≤ Ev.sumSq zs) (hb : Ev.lev zs ≤ 127) : Ev.lev zs ≤ Ev.lev gs := by
  have hd : Ev.sumSq gs / zs.length ≤ Ev.sumSq zs / zs.length := Nat.div_le_div_right h
  by_cases h0 : gs.length = 0
  · have : Ev.lev gs = 127 := by unfold Ev.lev; rw [if_pos h0]
    omega
  · by_cases h1 : Ev.sumSq gs / gs.length = 0
    · have : Ev.lev gs = 127 := by unfold Ev.lev; rw [if_neg h0, if_pos h1]
      omega
    · rw [hl] at h1
      have := log2_mono _ _ hd h1
      have h2 : ¬ Ev.sumSq zs / zs.length = 0 := by intro e; rw [e] at hd; exact h1 (Nat.le_zero.1 hd)
      unfold Ev.lev
      rw [if_neg (by omega), if_neg h2, if_neg h0, hl, if_neg h1]
      omega
theorem within_gv (zs us : List Int) (n : Nat) : Within (-32768) 32767 ((List.range n).map (gv zs us)) := by
  intro z hz
  obtain ⟨k, _, rfl⟩ := List.mem_map.1 hz
  exact wrap16_bd _
set_option maxHeartbeats 800000 in
theorem long (w : World) (A B : Option Addr) (n c m d : Nat) (h : 1000 < (n : Int)) :
    Calls Try.prog 4 #[.slice A n c, .slice B m d] w fun e w' => e = .returned (.bool true) ∧ Below w.heap.size w w' := by
  go_enter Try.func4, Try.ntmps4
  go_wp2_with fail
  refine (lives29 _).mono ?_
  rintro e w1 ⟨rfl, hb⟩
  go_wp2_with fail
  go_ret
  exact ⟨rfl, hb⟩
set_option maxRecDepth 100000 in
set_option maxHeartbeats 3200000 in
theorem main (w : World) (A : Option Addr) (zs : List Int) (c : Nat) (hA : IntsAt w w.heap.size .i16 A zs) (hz : Within (-32768) 32767 zs) (B : Option Addr) (us : List Int) (d : Nat) (hB : IntsAt w w.heap.size .u16 B us) (hu : Within 0 65535 us) (hum : us.length ≤ maxLen) (hl : zs.length ≤ 1000) :
    Calls Try.prog 4 #[.slice A zs.length c, .slice B us.length d] w fun e w' => e = .returned (.bool true) ∧ Below w.heap.size w w' := by
  have k1 := Lib.hid fun W h => Level_any A zs c W h hz (by omega)
  have k2 := Lib.hid fun W h => rLevel_any A zs c W h hz (by omega)
  have k3 := Lib.hid fun A' c' W h => Level_any A' ((List.range zs.length).map (gv zs us)) c' W h (within_gv zs us _) (by simp; omega)
  have hlm := lev_mono zs ((List.range zs.length).map (gv zs us)) (by simp) (by have := sum_le zs us hz hu zs.length (Nat.le_refl _); rwa [List.take_length] at this) (Ev.lev_bd zs hz).2
  have HLM := Lib.hid hlm
  have HZ := Lib.hid hz
  have HU := Lib.hid hu
  have IA := Lib.hid hA
  have IB := Lib.hid hB
  unfold maxLen at hum
  generalize Ev.lev zs = L at *
  generalize Ev.lev ((List.range zs.length).map (gv zs us)) = L2 at *
  have hl' : (zs.length : Int) ≤ 1000 := by omega
  clear hlm hz hu hA hB
  go_enter Try.func4, Try.ntmps4
  go_wp2_with fail
  refine (k1.out _ IA.out).mono ?_
  rintro e w1 ⟨rfl, rfl⟩
  go_wp2_with fail
  refine (k2.out _ IA.out).mono ?_
  rintro e w1 ⟨rfl, hb1⟩
  have U := Lib.hid ((Bel.refl w).later hb1)
  clear hb1
  go_wp2_with fail
  go_loopg [5, 6] zs.length (fun gk o i wr => ∃ (k : Nat) (A' : Option Addr) (c' : Nat), gk + k = zs.length ∧ i = .int .i64 k ∧ o = .slice A' k c' ∧ Hid (Owns wr w.heap.size 40 1 A' k c' ((List.range k).map fun j => Value.int .i16 (gv zs us j))) ∧ Hid (Bel w wr))
  case atStart => exact ⟨0, none, 0, rfl, rfl, rfl, Lib.hid Owns.nil, U⟩
  case round =>
    clear U
    obtain ⟨k, A', c', hg, rfl, rfl, HO, U⟩ := hrel
    have hbs := U.out.size
    by_cases hlt : k < zs.length
    · obtain ⟨z0, z1⟩ := HZ.out.at hlt
      obtain ⟨b, off, rfl, hbB, hcell⟩ := IA.out (by omega)
      have e0 : wr.cell? ⟨b, off + k, none⟩ = some (.int .i16 (zs.getD k 0)) := (U.out.cell (p := ⟨b, off + k, none⟩) hbB).trans (hcell k hlt)
      clear hcell
      have hi0 : (0 : Int) ≤ (k : Int) := by omega
      have hi1 : (k : Int) < (zs.length : Int) := by omega
      have hgv : gv zs us k = IntKind.i16.wrap (if k < us.length then Int.tdiv (zs.getD k 0 * (us.getD k 0 - 32768)) 32768 else zs.getD k 0) := rfl
      generalize zs.getD k 0 = z at *
      by_cases hlu : k < us.length
      · obtain ⟨u0, u1⟩ := HU.out.at hlu
        obtain ⟨b2, off2, rfl, hbB2, hcell2⟩ := IB.out (by omega)
        have e1 : wr.cell? ⟨b2, off2 + k, none⟩ = some (.int .u16 (us.getD k 0)) := (U.out.cell (p := ⟨b2, off2 + k, none⟩) hbB2).trans (hcell2 k hlu)
        clear hcell2
        rw [if_pos hlu] at hgv
        generalize us.getD k 0 = u at *
        have hj1 : (k : Int) < (us.length : Int) := by omega
        have m0 : -2147483648 ≤ z * (u - 32768) ∧ z * (u - 32768) ≤ 2147483648 := by
          have ha : (z * (u - 32768)).natAbs ≤ 32768 * 32768 := by
            rw [Int.natAbs_mul]
            exact Nat.mul_le_mul (by omega) (by omega)
          omega
        obtain ⟨m0, m1⟩ := m0
        have HV := Lib.hid hgv
        clear hgv
        go_wp2_with (at_builtin; go_loud (refine wpList_append_one rfl _ _ 37 rfl w.heap.size 40 1 2 (.int .i16 0) Try.underlying37 Ev.info_i16 rfl (by decide) A' k c' _ rfl HO.out [.int .i16 _] rfl (by simp [Value.oneCell']) rfl (by unfold maxLen; omega) (by omega) hbs ?_); intro A2 c2 w2 hown2 hg2 hlt2)
        go_roundg (gk - 1)
        case measure => omega
        case rel =>
          refine ⟨k + 1, A2, c2, by omega, by go_num, rfl, Lib.hid ?_, Lib.hid (below_own U.out HO.out hg2 hbs (Nat.le_refl _))⟩
          rw [List.range_succ, List.map_append, List.map_singleton, HV.out]
          exact hown2
      · have hj1 : (us.length : Int) ≤ (k : Int) := by omega
        rw [if_neg hlu, show IntKind.i16.wrap z = z by simp only [IntKind.wrap, IntKind.bits, IntKind.signed]; simp; omega] at hgv
        have HV := Lib.hid hgv
        clear hgv
        go_wp2_with (at_builtin; go_loud (refine wpList_append_one rfl _ _ 37 rfl w.heap.size 40 1 2 (.int .i16 0) Try.underlying37 Ev.info_i16 rfl (by decide) A' k c' _ rfl HO.out [.int .i16 _] rfl (by simp [Value.oneCell']) rfl (by unfold maxLen; omega) (by omega) hbs ?_); intro A2 c2 w2 hown2 hg2 hlt2)
        go_roundg (gk - 1)
        case measure => omega
        case rel =>
          refine ⟨k + 1, A2, c2, by omega, by go_num, rfl, Lib.hid ?_, Lib.hid (below_own U.out HO.out hg2 hbs (Nat.le_refl _))⟩
          rw [List.range_succ, List.map_append, List.map_singleton, HV.out]
          exact hown2
    · have hk : k = zs.length := by omega
      subst hk
      have hi1 : (zs.length : Int) ≤ (zs.length : Int) := Int.le_refl _
      have hown := HO.out
      rw [show ((List.range zs.length).map fun j => Value.int .i16 (gv zs us j)) = ((List.range zs.length).map (gv zs us)).map (Value.int .i16) by simp] at hown
      have IG := Lib.hid hown.ints
      clear hown
      have k4 : Hid (∀ (c' : Nat) (W : World), IntsAt W W.heap.size .i16 A' ((List.range zs.length).map (gv zs us)) → Calls Try.prog 16 #[.slice A' zs.length c'] W fun e w' => e = .returned (.int .u8 L2) ∧ W = w') := Lib.hid (fun c' W h => by have := k3.out A' c' W h; rwa [List.length_map, List.length_range] at this)
      go_wp2_with fail
      refine (k4.out _ _ IG.out).mono ?_
      rintro e w1 ⟨rfl, rfl⟩
      go_wp2_with fail
      refine (k1.out _ (IA.out.later U.out)).mono ?_
      rintro e w1 ⟨rfl, rfl⟩
      have hlm := HLM.out
      have hlm2 : decide (L ≤ L2) = true := by simpa using hlm
      clear hlm
      go_wp2_with fail
      refine (lives29 _).mono ?_
      rintro e w2 ⟨rfl, hb2⟩
      go_wp2_with fail
      go_ret
      exact ⟨rfl, U.out.later hb2⟩
theorem walk (w : World) (A : Option Addr) (zs : List Int) (c : Nat) (hl1 : zs.length ≤ c) (hm1 : c ≤ maxLen) (hA : IntsAt w w.heap.size .i16 A zs) (w1 : ∀ z ∈ zs, (Lit.int .i16 z).wf = true)
    (B : Option Addr) (us : List Int) (d : Nat) (hl2 : us.length ≤ d) (hm2 : d ≤ maxLen) (hB : IntsAt w w.heap.size .u16 B us) (w2 : ∀ z ∈ us, (Lit.int .u16 z).wf = true) :
    Calls Try.prog 4 #[.slice A zs.length c, .slice B us.length d] w fun e w' => e = .returned (.bool true) ∧ Below w.heap.size w w' := by
  by_cases h : zs.length ≤ 1000
  · exact main w A zs c hA (within_i16 w1) B us d hB (within_u16 w2) (by omega) h
  · exact long w A B _ c _ d (by omega)
end Go.Proofs.Ytangooegialmcaa.eventsLevels
