/- Layer 27, CompandPacks: for every law, samples and codes the law returns true. -/
import Derived.Test.YtnkmpkbddpeplaaCmpLaws
import Derived.Test.YtnkmpkbddpeplaaFrame
namespace Go.Proofs.Ytnkmpkbddpeplaa.compandPacks
open Go.RowKit
set_option linter.unusedVariables false
set_option maxHeartbeats 400000 in
theorem long1 (n : Int) (A B : Option Addr) (k m c d : Nat) (w : World) (h : 9000 < (k : Int)) :
    Calls Try.prog 5 #[.int .u8 n, .slice A k c, .slice B m d] w fun e w' => e = .returned (.bool true) ∧ Below w.heap.size w w' := by
  go_enter Try.func5, Try.ntmps5
  go_wp2_with (go_at_call 14; refine (lives27 _).mono ?_; rintro e w' ⟨rfl, hbel⟩)
  go_ret
  exact ⟨rfl, hbel⟩
set_option maxHeartbeats 400000 in
theorem long2 (n : Int) (A B : Option Addr) (k m c d : Nat) (w : World) (h : decide (9000 < (k : Int)) = false) (h' : 9000 < (m : Int)) :
    Calls Try.prog 5 #[.int .u8 n, .slice A k c, .slice B m d] w fun e w' => e = .returned (.bool true) ∧ Below w.heap.size w w' := by
  go_enter Try.func5, Try.ntmps5
  go_wp2_with (go_at_call 14; refine (lives27 _).mono ?_; rintro e w' ⟨rfl, hbel⟩)
  go_ret
  exact ⟨rfl, hbel⟩
set_option maxHeartbeats 800000 in
theorem short (n : Int) (A B : Option Addr) (zs bs : List Int) (c d : Nat) (w : World) (hA : IntsAt w w.heap.size .i16 A zs) (hz : Within (-32768) 32767 zs) (hB : IntsAt w w.heap.size .u8 B bs) (hb : Within 0 255 bs)
    (h : decide (9000 < (zs.length : Int)) = false) (h' : decide (9000 < (bs.length : Int)) = false) :
    Calls Try.prog 5 #[.int .u8 n, .slice A zs.length c, .slice B bs.length d] w fun e w' => e = .returned (.bool true) ∧ Below w.heap.size w w' := by
  go_enter Try.func5, Try.ntmps5
  go_wp2_with fail
  refine (Pack_all n A zs c _ hA hz).mono ?_
  rintro e w1 ⟨A1, c1, rfl, hA1, hb1⟩
  go_wp2_with fail
  refine (rPack_all n A zs c _ (hA.later hb1) hz).mono ?_
  rintro e w2 ⟨A2, c2, rfl, hA2, hb2⟩
  go_wp2_with fail
  refine (Unpack_all n B bs d _ ((hB.later hb1).later hb2) hb).mono ?_
  rintro e w3 ⟨A3, c3, rfl, hA3, hb3⟩
  go_wp2_with fail
  refine (rUnpack_all n B bs d _ (((hB.later hb1).later hb2).later hb3) hb).mono ?_
  rintro e w4 ⟨A4, c4, rfl, hA4, hb4⟩
  have hbel : Below w.heap.size w w4 := hb1.trans ((hb2.mono hb1.size).trans ((hb3.mono (Nat.le_trans hb1.size hb2.size)).trans (hb4.mono (Nat.le_trans hb1.size (Nat.le_trans hb2.size hb3.size)))))
  have hv1 := run_convert_ints ((((hA1.later hb2).later hb3)).later hb4) 32 9 5 Try.underlying32 Try.underlying5 Try.underlying9 _ c1 rfl
  have hv2 := run_convert_ints ((hA2.later hb3).later hb4) 32 9 5 Try.underlying32 Try.underlying5 Try.underlying9 _ c2 rfl
  have hA3' := Lib.hid (hA3.later hb4)
  have hA4' := Lib.hid hA4
  have hl := unpackOut_len n bs
  generalize packErr n zs.length = er1 at *
  generalize packErr n bs.length = er2 at *
  generalize unpackOut n bs = us at *
  generalize packOut n zs = ps at *
  clear hb1 hb2 hb3 hb4 hA hB hz hb hA1 hA2 hA3 hA4
  have HB := Lib.hid hbel
  clear hbel
  go_wp2_with fail
  refine (same27 A3 A4 us c3 c4 _ hA3'.out hA4'.out (by omega)).mono ?_
  rintro e w5 ⟨rfl, hb5⟩
  go_wp2_with (go_at_call 14; refine (lives27 _).mono ?_; rintro e w6 ⟨rfl, hb6⟩)
  go_ret
  have hs5 := HB.out.size
  have hs6 := hb5.size
  exact ⟨rfl, HB.out.trans ((hb5.mono hs5).trans (hb6.mono (by omega)))⟩
theorem walk (w : World) (n : Int) (w0 : (Lit.int .u8 n).wf = true) (A : Option Addr) (zs : List Int) (c : Nat) (hl1 : zs.length ≤ c) (hm1 : c ≤ maxLen) (hA : IntsAt w w.heap.size .i16 A zs) (w1 : ∀ z ∈ zs, (Lit.int .i16 z).wf = true)
    (B : Option Addr) (bs : List Int) (d : Nat) (hl2 : bs.length ≤ d) (hm2 : d ≤ maxLen) (hB : IntsAt w w.heap.size .u8 B bs) (w2 : ∀ z ∈ bs, (Lit.int .u8 z).wf = true) :
    Calls Try.prog 5 #[.int .u8 n, .slice A zs.length c, .slice B bs.length d] w fun e w' => e = .returned (.bool true) ∧ Below w.heap.size w w' := by
  by_cases h1 : 9000 < (zs.length : Int)
  · exact long1 n A B _ _ c d w h1
  · by_cases h2 : 9000 < (bs.length : Int)
    · exact long2 n A B _ _ c d w (by simpa using h1) h2
    · exact short n A B zs bs c d w hA (within_i16 w1) hB (within_u8 w2) (by simpa using h1) (by simpa using h2)
end Go.Proofs.Ytnkmpkbddpeplaa.compandPacks
