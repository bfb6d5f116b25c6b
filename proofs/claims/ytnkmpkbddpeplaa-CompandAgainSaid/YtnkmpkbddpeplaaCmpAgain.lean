/- Layer 27, CompandAgain: for every law and codes the law returns true. -/
import Derived.Test.YtnkmpkbddpeplaaCmpLaws
import Derived.Test.YtnkmpkbddpeplaaFrame
namespace Go.Proofs.Ytnkmpkbddpeplaa.compandAgain
open Go.RowKit
set_option linter.unusedVariables false
theorem back_mu : ∀ b, b < 256 → Cmp.fromMu (Cmp.mu (Cmp.fromMu b)) = Cmp.fromMu b := Cmp.byte_all (by decide +kernel)
theorem back_a : ∀ b, b < 256 → Cmp.fromA (Cmp.aCode (Cmp.fromA b)) = Cmp.fromA b := Cmp.byte_all (by decide +kernel)
theorem again (n : Int) (bs : List Int) (hb : Within 0 255 bs) : unpackOut n (packOut n (unpackOut n bs)) = unpackOut n bs := by
  unfold unpackOut packOut
  by_cases h8 : bs.length ≤ 8000
  · by_cases h1 : n = 1
    · subst h1
      simp only [h8, and_self, if_true, List.length_map, List.map_map]
      refine List.map_congr_left fun b hb' => ?_
      have := hb b hb'
      exact back_mu b.toNat (by omega)
    · by_cases h2 : n = 2
      · subst h2
        simp only [h8, and_self, if_true, List.length_map, List.map_map, show ¬ ((2 : Int) = 1) from by omega, false_and, if_false]
        refine List.map_congr_left fun b hb' => ?_
        have := hb b hb'
        exact back_a b.toNat (by omega)
      · simp [h1, h2]
  · simp [h8]
theorem ok_cases (n : Int) (bs : List Int) (h : packErr n bs.length = 0) : (unpackOut n bs).length = bs.length ∧ (packOut n (unpackOut n bs)).length = bs.length ∧ packErr n (unpackOut n bs).length = 0 ∧ packErr n (packOut n (unpackOut n bs)).length = 0 := by
  have hc : (n = 1 ∨ n = 2) ∧ bs.length ≤ 8000 := by
    unfold packErr at h
    by_cases h1 : n ≠ 1 ∧ n ≠ 2
    · rw [if_pos h1] at h; omega
    · rw [if_neg h1] at h
      by_cases h2 : 8000 < bs.length
      · rw [if_pos h2] at h; omega
      · omega
  obtain ⟨h1, h8⟩ := hc
  have e1 : (unpackOut n bs).length = bs.length := by unfold unpackOut; rcases h1 with rfl | rfl <;> simp [h8]
  have e2 : (packOut n (unpackOut n bs)).length = bs.length := by
    rw [← e1]
    unfold packOut; rcases h1 with rfl | rfl <;> simp [e1, h8]
  exact ⟨e1, e2, by rw [e1]; exact h, by rw [e2]; exact h⟩
theorem bad_cases (n : Int) (bs : List Int) (h : packErr n bs.length ≠ 0) : (unpackOut n bs).length = 0 := by
  unfold packErr at h
  unfold unpackOut
  by_cases h8 : bs.length ≤ 8000
  · by_cases h1 : n ≠ 1 ∧ n ≠ 2
    · rw [if_neg (by omega), if_neg (by omega)]; rfl
    · rw [if_neg h1, if_neg (by omega)] at h
      exact absurd rfl h
  · rw [if_neg (by omega), if_neg (by omega)]; rfl
set_option maxHeartbeats 400000 in
theorem long (n : Int) (B : Option Addr) (m d : Nat) (w : World) (h : 9000 < (m : Int)) :
    Calls Try.prog 6 #[.int .u8 n, .slice B m d] w fun e w' => e = .returned (.bool true) ∧ Below w.heap.size w w' := by
  go_enter Try.func6, Try.ntmps6
  go_wp2_with (go_at_call 14; refine (lives27 _).mono ?_; rintro e w' ⟨rfl, hbel⟩)
  go_ret
  exact ⟨rfl, hbel⟩
set_option maxHeartbeats 800000 in
theorem short (n : Int) (B : Option Addr) (bs : List Int) (d : Nat) (w : World) (hB : IntsAt w w.heap.size .u8 B bs) (hb : Within 0 255 bs) (h' : ¬ 9000 < (bs.length : Int)) :
    Calls Try.prog 6 #[.int .u8 n, .slice B bs.length d] w fun e w' => e = .returned (.bool true) ∧ Below w.heap.size w w' := by
  have hu := unpackOut_in n bs hb
  have hp := packOut_in n (unpackOut n bs)
  have HA := Lib.hid (again n bs hb)
  have HO := Lib.hid (ok_cases n bs)
  have HN := Lib.hid (bad_cases n bs)
  have hl := unpackOut_len n bs
  go_enter Try.func6, Try.ntmps6
  go_wp2_with fail
  refine (Unpack_all n B bs d _ hB hb).mono ?_
  rintro e w1 ⟨A1, c1, rfl, hA1, hb1⟩
  go_wp2_with fail
  refine (Pack_all n A1 _ c1 _ hA1 hu).mono ?_
  rintro e w2 ⟨A2, c2, rfl, hA2, hb2⟩
  go_wp2_with fail
  refine (Unpack_all n A2 _ c2 _ hA2 hp).mono ?_
  rintro e w3 ⟨A3, c3, rfl, hA3, hb3⟩
  rw [HA.out] at hA3 ⊢
  have hbel : Below w.heap.size w w3 := hb1.trans ((hb2.mono hb1.size).trans (hb3.mono (Nat.le_trans hb1.size hb2.size)))
  have HB := Lib.hid hbel
  have hA1' := Lib.hid ((hA1.later hb2).later hb3)
  have hA3' := Lib.hid hA3
  clear hb1 hb2 hb3 hB hb hu hp hA1 hA2 hA3 hbel
  by_cases he : packErr n bs.length = 0
  · obtain ⟨l1, l2, e2, e3⟩ := HO.out he
    rw [he, e2, e3, l2]
    rw [l1] at hl ⊢
    have L1 := Lib.hid l1
    clear he e2 e3 l1 l2
    go_wp2_with fail
    have h27 := same27 A1 A3 (unpackOut n bs) c1 c3 w3 hA1'.out hA3'.out (by rw [L1.out]; omega)
    rw [L1.out] at h27
    refine h27.mono ?_
    rintro e w5 ⟨rfl, hb5⟩
    go_wp2_with (go_at_call 14; refine (lives27 _).mono ?_; rintro e w6 ⟨rfl, hb6⟩)
    go_ret
    have hs5 := HB.out.size
    have hs6 := hb5.size
    exact ⟨rfl, HB.out.trans ((hb5.mono hs5).trans (hb6.mono (by omega)))⟩
  · have h0 := HN.out he
    have he' : (packErr n bs.length != 0) = true := by simpa using he
    rw [h0]
    clear he h0
    go_wp2_with (go_at_call 14; refine (lives27 _).mono ?_; rintro e w6 ⟨rfl, hb6⟩)
    go_ret
    have hs5 := HB.out.size
    exact ⟨rfl, HB.out.trans (hb6.mono (by omega))⟩
theorem walk (w : World) (n : Int) (w0 : (Lit.int .u8 n).wf = true)
    (B : Option Addr) (bs : List Int) (d : Nat) (hl2 : bs.length ≤ d) (hm2 : d ≤ maxLen) (hB : IntsAt w w.heap.size .u8 B bs) (w2 : ∀ z ∈ bs, (Lit.int .u8 z).wf = true) :
    Calls Try.prog 6 #[.int .u8 n, .slice B bs.length d] w fun e w' => e = .returned (.bool true) ∧ Below w.heap.size w w' := by
  by_cases h2 : 9000 < (bs.length : Int)
  · exact long n B _ d w h2
  · exact short n B bs d w hB (within_u8 w2) h2
end Go.Proofs.Ytnkmpkbddpeplaa.compandAgain
