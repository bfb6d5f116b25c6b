/- Layer 29: Hear of the program and of the reference, for every receiver and packet; Same of two lists of keys. -/
import Derived.Test.YtangooegialmcaaEvHearW
import Derived.Test.YtangooegialmcaaEvHearX
import Derived.Test.YtangooegialmcaaEvRefHear
import Derived.Deep.QuietTactic
import Derived.BigQuiet
namespace Go.Proofs.Ytangooegialmcaa
open Go.RowKit
set_option linter.unusedVariables false
set_option linter.unusedSimpArgs false
section
variable (on : Bool) (rt rc rl : Int) (re : Bool) (time c : Int) (f : Bool) (v d : Int) (w : World)
theorem Ev.hear_off : Ev.hear ⟨false, rt, rc, rl, re⟩ time ⟨c, f, v, d⟩ = (⟨true, time, c, d, f⟩, [⟨c, true, time, 0⟩] ++ (if f = true then [⟨c, false, time, d⟩] else [])) := by simp [Ev.hear]
theorem Ev.hear_on (h1 : 1 ≤ (time - rt) % 4294967296) (h2 : (time - rt) % 4294967296 < 2147483648) : Ev.hear ⟨true, rt, rc, rl, true⟩ time ⟨c, f, v, d⟩ = (⟨true, time, c, d, f⟩, [⟨c, true, time, 0⟩] ++ (if f = true then [⟨c, false, time, d⟩] else [])) := by simp [Ev.hear, h1, h2]
theorem Ev.hear_pre (h1 : 1 ≤ (time - rt) % 4294967296) (h2 : (time - rt) % 4294967296 < 2147483648) : Ev.hear ⟨true, rt, rc, rl, false⟩ time ⟨c, f, v, d⟩ = (⟨true, time, c, d, f⟩, [⟨rc, false, rt, rl⟩, ⟨c, true, time, 0⟩] ++ (if f = true then [⟨c, false, time, d⟩] else [])) := by simp [Ev.hear, h1, h2]
theorem Ev.hear_same (h : (time - rt) % 4294967296 = 0) : Ev.hear ⟨true, rt, c, rl, false⟩ time ⟨c, f, v, d⟩ = (⟨true, rt, c, max rl d, f⟩, if f = true then [⟨c, false, rt, max rl d⟩] else []) := by simp [Ev.hear, h]
theorem Ev.hear_none (h1 : ¬(1 ≤ (time - rt) % 4294967296 ∧ (time - rt) % 4294967296 < 2147483648)) (h2 : ¬((time - rt) % 4294967296 = 0 ∧ c = rc ∧ re = false)) : Ev.hear ⟨true, rt, rc, rl, re⟩ time ⟨c, f, v, d⟩ = (⟨true, rt, rc, rl, re⟩, []) := by
  unfold Ev.hear
  rw [if_neg (by rintro (h | h); cases h; exact h1 h), if_neg h2]
theorem Hear_any (t0 : 0 ≤ time) (t1 : time ≤ 4294967295) (d0 : 0 ≤ d) (d1 : d ≤ 65535) (l0 : -9223372036854775808 ≤ rl) (l1 : rl ≤ 9223372036854775807) :
    Calls Try.prog 12 #[.agg #[.bool on, .int .u32 rt, .int .u8 rc, .int .i64 rl, .bool re], .int .u32 time, .agg #[.int .u8 c, .bool f, .int .u8 v, .int .u16 d]] w (Ev.HearR w (Ev.hear ⟨on, rt, rc, rl, re⟩ time ⟨c, f, v, d⟩)) := by
  cases on
  · rw [Ev.hear_off]
    cases f
    · exact Hear_off_f rt rc rl time c v d w t0 t1 d0 d1 re
    · exact Hear_off_t rt rc rl time c v d w t0 t1 d0 d1 re
  · by_cases h1 : 1 ≤ (time - rt) % 4294967296 ∧ (time - rt) % 4294967296 < 2147483648
    · obtain ⟨h1, h2⟩ := h1
      cases re
      · rw [Ev.hear_pre rt rc rl time c f v d h1 h2]
        cases f
        · exact Hear_pre_f rt rc rl time c v d w t0 t1 d0 d1 h1 h2
        · exact Hear_pre_t rt rc rl time c v d w t0 t1 d0 d1 h1 h2
      · rw [Ev.hear_on rt rc rl time c f v d h1 h2]
        cases f
        · exact Hear_on_f rt rc rl time c v d w t0 t1 d0 d1 h1 h2
        · exact Hear_on_t rt rc rl time c v d w t0 t1 d0 d1 h1 h2
    · by_cases h2 : (time - rt) % 4294967296 = 0 ∧ c = rc ∧ re = false
      · obtain ⟨h2, rfl, rfl⟩ := h2
        rw [Ev.hear_same rt rl time c f v d h2]
        cases f
        · exact Hear_same_f rt rl time c v d w t0 t1 d0 d1 l0 l1 h2
        · exact Hear_same_t rt rl time c v d w t0 t1 d0 d1 l0 l1 h2
      · rw [Ev.hear_none rt rc rl re time c f v d h1 h2]
        by_cases h3 : (time - rt) % 4294967296 = 0
        · by_cases h4 : c = rc
          · subst h4
            have : re = true := by
              cases re
              · exact absurd ⟨h3, rfl, rfl⟩ h2
              · rfl
            subst this
            exact Hear_over rt rl time c v d w f t0 t1 d0 d1 l0 l1 h3
          · exact Hear_other rt rc rl time c v d w re f t0 t1 d0 d1 l0 l1 h3 (by simpa using h4)
        · exact Hear_late rt rc rl time c v d w re f t0 t1 d0 d1 l0 l1 (by omega) (by simpa using h3) (by simp; omega)
theorem rHear_any (t0 : 0 ≤ time) (t1 : time ≤ 4294967295) (r0 : 0 ≤ rt) (r1 : rt ≤ 4294967295) (d0 : 0 ≤ d) (d1 : d ≤ 65535) (l0 : -9223372036854775808 ≤ rl) (l1 : rl ≤ 9223372036854775807) :
    Calls Try.prog 13 #[.agg #[.bool on, .int .u32 rt, .int .u8 rc, .int .i64 rl, .bool re], .int .u32 time, .agg #[.int .u8 c, .bool f, .int .u8 v, .int .u16 d]] w (Ev.HearR w (Ev.hear ⟨on, rt, rc, rl, re⟩ time ⟨c, f, v, d⟩)) := by
  have hE : (time - rt + 4294967296) % 4294967296 = (time - rt) % 4294967296 := by omega
  cases on
  · rw [Ev.hear_off]
    cases f
    · exact rHear_off_f rt rc rl time c v d w re t0 t1 r0 r1 d0 d1 l0 l1
    · exact rHear_off_t rt rc rl time c v d w re t0 t1 r0 r1 d0 d1 l0 l1
  · by_cases h1 : 1 ≤ (time - rt) % 4294967296 ∧ (time - rt) % 4294967296 < 2147483648
    · obtain ⟨h1, h2⟩ := h1
      cases re
      · rw [Ev.hear_pre rt rc rl time c f v d h1 h2]
        cases f
        · exact rHear_pre_f rt rc rl time c v d w t0 t1 r0 r1 d0 d1 l0 l1 (by omega) (by omega)
        · exact rHear_pre_t rt rc rl time c v d w t0 t1 r0 r1 d0 d1 l0 l1 (by omega) (by omega)
      · rw [Ev.hear_on rt rc rl time c f v d h1 h2]
        cases f
        · exact rHear_on_f rt rc rl time c v d w t0 t1 r0 r1 d0 d1 l0 l1 (by omega) (by omega)
        · exact rHear_on_t rt rc rl time c v d w t0 t1 r0 r1 d0 d1 l0 l1 (by omega) (by omega)
    · by_cases h2 : (time - rt) % 4294967296 = 0 ∧ c = rc ∧ re = false
      · obtain ⟨h2, rfl, rfl⟩ := h2
        rw [Ev.hear_same rt rl time c f v d h2]
        by_cases hm : rl < d
        · rw [show max rl d = d by omega]
          cases f
          · exact rHear_same_f_hi rt rl time c v d w t0 t1 r0 r1 d0 d1 l0 l1 (by omega) hm
          · exact rHear_same_t_hi rt rl time c v d w t0 t1 r0 r1 d0 d1 l0 l1 (by omega) hm
        · rw [show max rl d = rl by omega]
          cases f
          · exact rHear_same_f_lo rt rl time c v d w t0 t1 r0 r1 d0 d1 l0 l1 (by omega) (by simpa using hm)
          · exact rHear_same_t_lo rt rl time c v d w t0 t1 r0 r1 d0 d1 l0 l1 (by omega) (by simpa using hm)
      · rw [Ev.hear_none rt rc rl re time c f v d h1 h2]
        by_cases h3 : (time - rt) % 4294967296 = 0
        · by_cases h4 : c = rc
          · subst h4
            have : re = true := by
              cases re
              · exact absurd ⟨h3, rfl, rfl⟩ h2
              · rfl
            subst this
            exact rHear_over rt rl time c v d w f t0 t1 r0 r1 d0 d1 l0 l1 (by omega)
          · exact rHear_other rt rc rl time c v d w re f t0 t1 r0 r1 d0 d1 l0 l1 (by omega) (by simpa using h4) (by simpa using h4)
        · exact rHear_late rt rc rl time c v d w re f t0 t1 r0 r1 d0 d1 l0 l1 (by omega) (by simp; omega) (by simp; omega) (by simp; omega)
end
theorem RowsAt.key {w : World} {B : Nat} {b off : Nat} {l : List Ev.Key} (h : ∀ (i : Nat) (a : Ev.Key), l[i]? = some a → ∀ (j : Nat) (v : Value), (Ev.Key.row a)[j]? = some v → w.cell? ⟨b, off + i * 4 + j, none⟩ = some v) {k : Nat} {a : Ev.Key} (ha : l[k]? = some a) :
    w.cell? ⟨b, off + k * 4, none⟩ = some (.int .u8 a.code) ∧ w.cell? ⟨b, off + k * 4 + 1, none⟩ = some (.bool a.down) ∧ w.cell? ⟨b, off + k * 4 + 2, none⟩ = some (.int .u32 a.time) ∧ w.cell? ⟨b, off + k * 4 + 3, none⟩ = some (.int .i64 a.len) :=
  ⟨h k a ha 0 _ rfl, h k a ha 1 _ rfl, h k a ha 2 _ rfl, h k a ha 3 _ rfl⟩
set_option maxHeartbeats 600000 in
theorem same29 (A B : Option Addr) (l : List Ev.Key) (n c d : Nat) (hn : l.length = n) (w : World) (hA : RowsAt w w.heap.size 4 Ev.Key.row A l) (hB : RowsAt w w.heap.size 4 Ev.Key.row B l) (h63 : n ≤ 1099511627776) :
    Calls Try.prog 14 #[.slice A n c, .slice B n d] w fun e w' => e = .returned (.bool true) ∧ Below w.heap.size w w' := by
  subst hn
  go_enter Try.func14, Try.ntmps14
  go_wp2
  go_loopw [5] (fun i wr => ∃ k : Nat, k ≤ l.length ∧ i = .int .i64 k ∧ Below w.heap.size w wr) (fun i _ => l.length - (intOf i).toNat)
  case atStart => exact ⟨0, Nat.zero_le _, rfl, Below.refl _ _⟩
  case round =>
    obtain ⟨k, hk, rfl, hb⟩ := hrel
    by_cases hlt : k < l.length
    · obtain ⟨b, off, rfl, hbB, hcell⟩ := hA (by omega)
      obtain ⟨b2, off2, rfl, hbB2, hcell2⟩ := hB (by omega)
      obtain ⟨a, ha⟩ : ∃ a, l[k]? = some a := ⟨_, List.getElem?_eq_getElem hlt⟩
      obtain ⟨c0, c1, c2, c3⟩ := RowsAt.key (w := wr) (B := w.heap.size) (b := b) (off := off) (l := l) (fun i a ha j v hv => (hb.cell (p := ⟨b, off + i * 4 + j, none⟩) hbB).trans (hcell i a ha j v hv)) ha
      obtain ⟨e0, e1, e2, e3⟩ := RowsAt.key (w := wr) (B := w.heap.size) (b := b2) (off := off2) (l := l) (fun i a ha j v hv => (hb.cell (p := ⟨b2, off2 + i * 4 + j, none⟩) hbB2).trans (hcell2 i a ha j v hv)) ha
      clear hcell hcell2 ha
      have hi0 : (0 : Int) ≤ (k : Int) := by omega
      have hi1 : (k : Int) < (l.length : Int) := by omega
      go_wp2
      go_quiet (fail)
      go_wp2
      go_roundw
      case rel => exact ⟨k + 1, by omega, by go_num, Bel.drewN hb _⟩
      case measure => simp [intOf]; omega
    · go_wp2
      go_ret
      exact ⟨rfl, hb⟩
end Go.Proofs.Ytangooegialmcaa
