/- Layer 29, EventsOnce: the time stamp of a key among the packets. -/
import Derived.Test.YtangooegialmcaaEvOnceS
namespace Go.Proofs.Ytangooegialmcaa.eventsOnce
open Go.RowKit
set_option linter.unusedVariables false
set_option linter.unusedSimpArgs false
set_option maxHeartbeats 800000 in
theorem start_any (w : World) (B : Nat) (A : Option Addr) (PL : List Sent) (c : Nat) (i T : Int) (hA : RowsAt w B 7 Sent.row A PL) (hl : PL.length ≤ 200) (hex : ∃ p ∈ PL, p.key = i) (hall : ∀ p ∈ PL, p.key = i → p.time = T) :
    Calls Try.prog 27 #[.slice A PL.length c, .int .i64 i] w fun e w' => e = .returned (.int .u32 T) ∧ w = w' := by
  have HA := Lib.hid hA
  have HX := Lib.hid hex
  have HL := Lib.hid hall
  clear hA hex hall
  go_enter Try.func27, Try.ntmps27
  go_wp2
  go_loop [5] (fun s => ∃ k : Nat, k ≤ PL.length ∧ s = .int .i64 k ∧ Hid (∀ (m : Nat) (p : Sent), m < k → PL[m]? = some p → p.key ≠ i)) (fun s => PL.length - (intOf s).toNat)
  case atStart => exact ⟨0, Nat.zero_le _, rfl, Lib.hid (fun m p h => by omega)⟩
  case round =>
    obtain ⟨k, hk, rfl, HM⟩ := hrel
    by_cases hlt : k < PL.length
    · obtain ⟨a, ha⟩ : ∃ a, PL[k]? = some a := ⟨_, List.getElem?_eq_getElem hlt⟩
      obtain ⟨b, off, rfl, hbB, e0, e1, e2, e3, e4, e5, e6⟩ := rows7 HA.out ha
      have hi0 : (0 : Int) ≤ (k : Int) := by omega
      have hi1 : (k : Int) < (PL.length : Int) := by omega
      clear e2 e3 e4 e5 e6
      by_cases he : a.key = i
      · have ht := HL.out a (List.mem_of_getElem? ha) he
        have hb : (a.key == i) = true := by rw [beq_iff_eq]; exact he
        rw [ht] at e1
        have HT := Lib.hid ht
        clear ht he ha
        go_wp2
        go_ret
        exact ⟨rfl, rfl⟩
      · have hb : (a.key == i) = false := by rw [beq_eq_false_iff_ne]; exact he
        have HE := Lib.hid he
        have HAA := Lib.hid ha
        clear he ha
        go_wp2
        go_round
        case rel =>
          refine ⟨k + 1, by omega, by go_num, Lib.hid (fun m p hm hp => ?_)⟩
          by_cases h : m < k
          · exact HM.out m p h hp
          · obtain rfl : m = k := by omega
            have := HAA.out
            rw [this] at hp
            injection hp with hp
            rw [← hp]; exact HE.out
        case measure => simp [intOf]; omega
    · exfalso
      obtain ⟨p, hp, hpi⟩ := HX.out
      obtain ⟨m, hm, rfl⟩ := List.mem_iff_getElem.1 hp
      exact HM.out m _ (by omega) (List.getElem?_eq_getElem hm) hpi
end Go.Proofs.Ytangooegialmcaa.eventsOnce
