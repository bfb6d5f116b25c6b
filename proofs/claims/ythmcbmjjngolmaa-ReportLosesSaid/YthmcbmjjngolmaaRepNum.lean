/- Layer 26: number of the reference. -/
import Derived.Test.YthmcbmjjngolmaaRepPut
namespace Go.Proofs.Ythmcbmjjngolmaa
open Go.RowKit
set_option linter.unusedVariables false
set_option linter.unusedSimpArgs false
theorem Owns.lit (w : World) (base : Nat) (e : TypeId) (cs : List Value) (n : Nat) (hb : base ≤ w.heap.size) (hm : n ≤ maxLen) (hn : cs.length = n) : Owns (w.alloc (.cells cs.toArray e)) base e 1 (some ⟨w.heap.size, 0, none⟩) n n cs := by
  have := World.ownsRow_lit (base := base) (e := e) (size := 1) w cs.toArray n hb hm (by simpa using hn)
  simpa [Owns] using this
def NumR (n : Nat) (x : Int) (w : World) (e : Ending) (w' : World) : Prop :=
  ∃ (A : Option Addr) (c : Nat), e = .returned (.slice A n c) ∧ IntsNew w.heap.size w' .u8 A (be n x) ∧ Below w.heap.size w w'
section
variable (w : World) (x : Int) (n : Nat)
set_option maxRecDepth 100000 in
set_option maxHeartbeats 1600000 in
theorem number_any (x0 : 0 ≤ x) (x1 : x ≤ 18446744073709551615) (hn : n ≤ 8) :
    Calls Try.prog 34 #[.int .u64 x, .int .i64 n] w (NumR n x w) := by
  go_enter Try.func34, Try.ntmps34
  go_wp2_with fail
  go_loopg [0, 5, 6] n (fun gk s0 s5 s6 wr => ∃ (k : Nat) (A' : Option Addr) (c' : Nat) (y : Int) (out : List Int), gk + k = n ∧ s6 = .int .i64 k ∧ s5 = .slice A' k c' ∧ s0 = .int .u64 y ∧ Hid (be n x = be gk y ++ out) ∧ Hid (out.length = k) ∧ Hid (0 ≤ y ∧ y ≤ 18446744073709551615) ∧ Hid (IntsNew w.heap.size wr .u8 A' out) ∧ Hid (Bel w wr))
  case atStart => exact ⟨0, none, 0, x, [], rfl, rfl, rfl, rfl, Lib.hid (by simp), Lib.hid rfl, Lib.hid ⟨x0, x1⟩, Lib.hid IntsNew.nil, Lib.hid (Bel.refl w)⟩
  case round =>
    obtain ⟨k, A', c', y, out, hg, rfl, rfl, rfl, HB, HL, HY, HI, U⟩ := hrel
    by_cases hlt : k < n
    · obtain ⟨q, rfl⟩ : ∃ q, gk = q + 1 := ⟨gk - 1, by omega⟩
      obtain ⟨y0, y1⟩ := HY.out
      have hbs := U.out.size
      have hi1 : (k : Int) < (n : Int) := by omega
      have hi0 : (0 : Int) ≤ (k : Int) := by omega
      go_wp2_with (at_builtin
                   go_loud (refine wpList_append_ints rfl _ _ 40 rfl w.heap.size 5 1 (.int .u8 0) Try.underlying40 info_u8 rfl (some ⟨wr.heap.size, 0, none⟩) 1 1 [.int .u8 (y % 256)] rfl (Owns.lit wr _ _ [.int .u8 (y % 256)] 1 hbs (by unfold maxLen; omega) rfl) _ .u8 A' c' out (by rw [HL.out]; rfl) (HI.out.push _).1 (by rw [HL.out]; unfold maxLen; omega) (by rw [HL.out]; omega) (by simp; omega) (k + 1) (by rw [HL.out]; omega) ?_)
                   intro A2 c2 w2 hown2 hg2 hat2)
      have hU2 : Bel w w2 := (U.out.push _).grown hg2 (by simp; omega) (fun g e => by simp [ownB] at e; omega)
      go_roundg q
      case measure => omega
      case rel =>
        refine ⟨k + 1, A2, c2, y / 256, [y % 256] ++ out, by omega, by go_num, rfl, rfl, Lib.hid ?_, Lib.hid (by rw [List.length_append, HL.out]; simp; omega), Lib.hid (by omega), Lib.hid ?_, Lib.hid hU2⟩
        · rw [HB.out]
          show be q (y / 256) ++ [y % 256] ++ out = _
          rw [List.append_assoc]
        · exact IntsNew.of_own (base := w.heap.size) (e := 5) (n := k + 1) (c := c2) (by rw [List.map_append]; exact hown2) (Nat.le_refl _)
    · obtain rfl : gk = 0 := by omega
      have hi1 : (n : Int) ≤ (k : Int) := by omega
      have hk : k = n := by omega
      subst hk
      go_wp2_with fail
      go_ret
      exact ⟨A', c', rfl, by rw [HB.out]; exact HI.out, U.out⟩
end
end Go.Proofs.Ythmcbmjjngolmaa
