/- Layer 26, ReportEncodes: for every reports the law returns true. -/
import Derived.Test.YthmcbmjjngolmaaRepFew
namespace Go.Proofs.Ythmcbmjjngolmaa.reportEncodes
open Go.RowKit
set_option linter.unusedVariables false
set_option linter.unusedSimpArgs false
attribute [local go_sem ↓] run_min_plain run_max_plain
attribute [local go_sem] setCell_drewN alloc_drewN
set_option maxRecDepth 100000 in
set_option maxHeartbeats 3200000 in
theorem walk (w : World) (A : Option Addr) (l : List TR) (cap : Nat) (hl : l.length ≤ cap) (hm : cap ≤ maxLen) (hR : RowsAt w w.heap.size 7 TR.row A l) (hok : ∀ a ∈ l, RowsAt w w.heap.size 7 Rep.Bk.cells a.B a.r.blocks ∧ a.r.ok) :
    Calls Try.prog 7 #[.slice A l.length cap] w fun e w' => e = .returned (.bool true) ∧ Below w.heap.size w w' := by
  have hmm : l.length ≤ maxLen := Nat.le_trans hl hm
  have kf := few_any A l cap w l.length rfl hR hmm
  have HR := Lib.hid (show Rpts w w.heap.size A l from ⟨hR, fun a ha => (hok a ha).1⟩)
  have HK := Lib.hid (fun a (ha : a ∈ l) => (hok a ha).2)
  have KF := Lib.hid kf
  unfold maxLen at hmm
  clear hR hok kf hm
  go_enter Try.func7, Try.ntmps7
  go_wp2_with fail
  refine KF.out.mono ?_
  rintro e w1 ⟨b, rfl, rfl, hb⟩
  cases b
  · go_wp2_with fail
    refine (lives26 _).mono ?_
    rintro e w1 ⟨rfl, hb1⟩
    go_wp2_with fail
    go_ret
    exact ⟨rfl, hb1⟩
  · have h20 := hb rfl
    clear hb
    go_wp2_with fail
    go_loopg [3] l.length (fun gk i wr => ∃ k : Nat, gk + k = l.length ∧ i = .int .i64 k ∧ Hid (Bel w wr))
    case atStart => exact ⟨0, rfl, rfl, Lib.hid (Bel.refl w)⟩
    case round =>
      obtain ⟨k, hgk, rfl, U⟩ := hrel
      have hi0 : (0 : Int) ≤ (k : Int) := by omega
      by_cases hlt : k < l.length
      · obtain ⟨a, ha⟩ : ∃ a, l[k]? = some a := ⟨_, List.getElem?_eq_getElem hlt⟩
        have HAA := HR.out.keep (fun p hp => U.out.cell hp)
        obtain ⟨b, off, rfl, hbB, e0, e1, e2, e3, e4, e5, e6⟩ := rowsT HAA.1 ha
        have HB := HAA.2 a (List.mem_of_getElem? ha)
        have hok := HK.out a (List.mem_of_getElem? ha)
        obtain ⟨⟨s, so, cl, ti, pa, oc, bl⟩, B, cb⟩ := a
        simp only at e0 e1 e2 e3 e4 e5 e6 HB hok
        have hi1 : (k : Int) < (l.length : Int) := by omega
        have k1 := fun W h => Encode_any s so cl ti pa oc B bl cb W hok h
        have k2 := fun W h => rEncode_any s so cl ti pa oc B bl cb W hok h
        generalize Rep.enc ⟨s, so, cl, ti, pa, oc, bl⟩ = E at *
        obtain ⟨bs, er⟩ := E
        have K1 := Lib.hid k1
        have K2 := Lib.hid k2
        have HBB := Lib.hid (HB.more U.out.size)
        clear k1 k2 hok HAA HB ha
        go_wp2_with fail
        refine (K1.out _ HBB.out).mono ?_
        rintro e w2 ⟨A1, c1, rfl, ⟨hI, _⟩, hb2⟩
        have I1 := Lib.hid hI
        have E0 := (bcell hb2).1 b (off + k * 7) (by have := U.out.size; omega)
        have E1 := (bcell hb2).1 b (off + k * 7 + 1) (by have := U.out.size; omega)
        have E2 := (bcell hb2).1 b (off + k * 7 + 2) (by have := U.out.size; omega)
        have E3 := (bcell hb2).1 b (off + k * 7 + 3) (by have := U.out.size; omega)
        have E4 := (bcell hb2).1 b (off + k * 7 + 4) (by have := U.out.size; omega)
        have E5 := (bcell hb2).1 b (off + k * 7 + 5) (by have := U.out.size; omega)
        have E6 := (bcell hb2).1 b (off + k * 7 + 6) (by have := U.out.size; omega)
        rw [e0] at E0
        rw [e1] at E1
        rw [e2] at E2
        rw [e3] at E3
        rw [e4] at E4
        rw [e5] at E5
        rw [e6] at E6
        have HBB2 := Lib.hid (HBB.out.later hb2)
        have U2 := Lib.hid (U.out.later hb2)
        clear hI hb2 HBB U e0 e1 e2 e3 e4 e5 e6
        go_wp2_with fail
        clear E0 E1 E2 E3 E4 E5 E6
        refine (K2.out _ HBB2.out).mono ?_
        rintro e w3 ⟨A2, c2, rfl, ⟨hI, _⟩, hb3⟩
        have I2 := Lib.hid hI
        have I1' := Lib.hid (I1.out.later hb3)
        have U3 := Lib.hid (U2.out.later hb3)
        clear hI hb3 I1 U2 HBB2 K1 K2
        simp only at I1' I2
        have hv1 := run_convert_ints I1'.out 40 9 5 Try.underlying40 Try.underlying5 Try.underlying9 bs.length c1 rfl
        have hv2 := run_convert_ints I2.out 40 9 5 Try.underlying40 Try.underlying5 Try.underlying9 bs.length c2 rfl
        simp only
        go_wp2_with fail
        go_roundg (gk - 1)
        case measure => omega
        case rel => exact ⟨k + 1, by omega, by go_num, U3⟩
      · obtain rfl : k = l.length := by omega
        have hi1 : (l.length : Int) ≤ (l.length : Int) := Int.le_refl _
        go_wp2_with fail
        have HRR := (HR.out.keep (fun p hp => U.out.cell hp)).more U.out.size
        have k1 := EncodeAll_any A l cap wr l.length rfl h20 HRR HK.out
        have k2 := fun W h => rEncodeAll_any A l cap W l.length rfl h20 h HK.out
        have HRX := Lib.hid HRR
        clear HRR
        generalize Rep.encAll (l.map TR.r) = E at *
        obtain ⟨bs, er⟩ := E
        have K2 := Lib.hid k2
        clear k2
        refine k1.mono ?_
        clear k1
        rintro e w2 ⟨A1, c1, rfl, ⟨hI, _⟩, hb2⟩
        have I1 := Lib.hid hI
        have U2 := Lib.hid (U.out.later hb2)
        have HR2 := Lib.hid (HRX.out.later hb2)
        clear hI hb2 U HRX
        go_wp2_with fail
        refine (K2.out _ HR2.out).mono ?_
        rintro e w3 ⟨A2, c2, rfl, ⟨hI, _⟩, hb3⟩
        have I2 := Lib.hid hI
        have I1' := Lib.hid (I1.out.later hb3)
        have U3 := Lib.hid (U2.out.later hb3)
        clear hI hb3 I1 U2 HR2 K2
        simp only at I1' I2
        have hv1 := run_convert_ints I1'.out 40 9 5 Try.underlying40 Try.underlying5 Try.underlying9 bs.length c1 rfl
        have hv2 := run_convert_ints I2.out 40 9 5 Try.underlying40 Try.underlying5 Try.underlying9 bs.length c2 rfl
        simp only
        go_wp2_with fail
        refine (lives26 _).mono ?_
        rintro e w4 ⟨rfl, hb4⟩
        go_wp2_with fail
        go_ret
        exact ⟨by simp, U3.out.later hb4⟩
end Go.Proofs.Ythmcbmjjngolmaa.reportEncodes
