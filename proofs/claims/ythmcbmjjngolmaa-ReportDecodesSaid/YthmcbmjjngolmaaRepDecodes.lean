/- Layer 26, ReportDecodes: for every bytes the law returns true. -/
import Derived.Test.YthmcbmjjngolmaaRepSame
import Derived.Test.YthmcbmjjngolmaaRepDecL
namespace Go.Proofs.Ythmcbmjjngolmaa.reportDecodes
open Go.RowKit
set_option linter.unusedVariables false
set_option linter.unusedSimpArgs false
attribute [local go_sem ↓] run_min_plain run_max_plain
attribute [local go_sem] setCell_drewN alloc_drewN
set_option maxRecDepth 100000 in
set_option maxHeartbeats 6400000 in
theorem main (w : World) (A : Option Addr) (bs : List Int) (cap : Nat) (hl : bs.length ≤ cap) (hm : cap ≤ maxLen) (hA : IntsAt w w.heap.size .u8 A bs) (hz : Within 0 255 bs) :
    Calls Try.prog 8 #[.slice A bs.length cap] w fun e w' => e = .returned (.bool true) ∧ Below w.heap.size w w' := by
  have hmm : bs.length ≤ maxLen := Nat.le_trans hl hm
  by_cases h5 : 5000 < bs.length
  · have h5' : (5000 : Int) < (bs.length : Int) := by omega
    clear hA hz
    go_enter Try.func8, Try.ntmps8
    go_wp2_with fail
    refine (lives26 _).mono ?_
    rintro e w1 ⟨rfl, hb1⟩
    go_wp2_with fail
    go_ret
    exact ⟨rfl, hb1⟩
  have h5' : (bs.length : Int) ≤ 5000 := by omega
  have k1 := fun W h => Decode_any A bs cap W h hz hmm
  have k2 := fun W h => rDecode_any A bs cap W h hz hmm hl
  have k3 := fun W h => DecodeAll_any A bs cap W bs.length rfl h hz (by omega) hl
  have k4 := fun W h => rDecodeAll_any A bs cap W bs.length rfl h hz (by omega) hl
  have hb1 := Rep.dec_blocks bs hz
  have hb2 := Rep.decAll_len (bs.length + 1) bs hz 0 [] (fun _ h => by cases h)
  generalize Rep.dec bs = D at *
  generalize Rep.decAll (bs.length + 1) bs 0 [] = R at *
  obtain ⟨⟨s, so, cl, ti, pa, oc, bl⟩, n, er⟩ := D
  obtain ⟨rs, n2, er2⟩ := R
  simp only at hb1 hb2
  obtain ⟨hb2, hb3⟩ := hb2
  simp only [List.length_nil, Nat.zero_add] at hb2
  have K1 := Lib.hid k1
  have K2 := Lib.hid k2
  have K3 := Lib.hid k3
  have K4 := Lib.hid k4
  have HB3 := Lib.hid hb3
  have I := Lib.hid hA
  clear k1 k2 k3 k4 hb3 hA hz
  go_enter Try.func8, Try.ntmps8
  have U := Lib.hid (Bel.refl w)
  go_wp2_with fail
  refine (K1.out _ I.out).mono ?_
  rintro e w1 ⟨B1, d1, rfl, ⟨n1_, _⟩, hb1⟩
  replace U := Lib.hid (U.out.later hb1)
  replace I := Lib.hid (I.out.later hb1)
  clear hb1
  have N1 := Lib.hid n1_
  clear n1_
  simp only at N1
  simp only [Rep.Rpt.row]
  replace U := Lib.hid (U.out.push (.cells #[.bool s, .int .u32 so, .int .u64 cl, .int .u32 ti, .int .u32 pa, .int .u32 oc, .slice B1 bl.length d1] 47))
  replace I := Lib.hid (I.out.push (.cells #[.bool s, .int .u32 so, .int .u64 cl, .int .u32 ti, .int .u32 pa, .int .u32 oc, .slice B1 bl.length d1] 47))
  replace N1 := Lib.hid (N1.out.push (.cells #[.bool s, .int .u32 so, .int .u64 cl, .int .u32 ti, .int .u32 pa, .int .u32 oc, .slice B1 bl.length d1] 47))
  have X1 := Lib.hid (Blk.new w1 47 #[.bool s, .int .u32 so, .int .u64 cl, .int .u32 ti, .int .u32 pa, .int .u32 oc, .slice B1 bl.length d1])
  go_wp2_with fail
  refine (K2.out _ I.out).mono ?_
  rintro e w2 ⟨B2, d2, rfl, ⟨n2_, _⟩, hb2⟩
  replace U := Lib.hid (U.out.later hb2)
  replace I := Lib.hid (I.out.later hb2)
  replace N1 := Lib.hid (N1.out.later hb2)
  replace X1 := Lib.hid (X1.out.later hb2)
  clear hb2
  have N2 := Lib.hid n2_
  clear n2_
  simp only at N2
  simp only [Rep.Rpt.row]
  replace U := Lib.hid (U.out.push (.cells #[.bool s, .int .u32 so, .int .u64 cl, .int .u32 ti, .int .u32 pa, .int .u32 oc, .slice B2 bl.length d2] 47))
  replace I := Lib.hid (I.out.push (.cells #[.bool s, .int .u32 so, .int .u64 cl, .int .u32 ti, .int .u32 pa, .int .u32 oc, .slice B2 bl.length d2] 47))
  replace N1 := Lib.hid (N1.out.push (.cells #[.bool s, .int .u32 so, .int .u64 cl, .int .u32 ti, .int .u32 pa, .int .u32 oc, .slice B2 bl.length d2] 47))
  replace X1 := Lib.hid (X1.out.push (.cells #[.bool s, .int .u32 so, .int .u64 cl, .int .u32 ti, .int .u32 pa, .int .u32 oc, .slice B2 bl.length d2] 47))
  replace N2 := Lib.hid (N2.out.push (.cells #[.bool s, .int .u32 so, .int .u64 cl, .int .u32 ti, .int .u32 pa, .int .u32 oc, .slice B2 bl.length d2] 47))
  have X2 := Lib.hid (Blk.new w2 47 #[.bool s, .int .u32 so, .int .u64 cl, .int .u32 ti, .int .u32 pa, .int .u32 oc, .slice B2 bl.length d2])
  go_wp2_with fail
  refine (K3.out _ I.out).mono ?_
  rintro e w3 ⟨L1, e1, l1, hl1, rfl, m1_, hb3⟩
  replace U := Lib.hid (U.out.later hb3)
  replace I := Lib.hid (I.out.later hb3)
  replace N1 := Lib.hid (N1.out.later hb3)
  replace X1 := Lib.hid (X1.out.later hb3)
  replace N2 := Lib.hid (N2.out.later hb3)
  replace X2 := Lib.hid (X2.out.later hb3)
  clear hb3
  have M1 := Lib.hid m1_
  clear m1_
  go_wp2_with fail
  refine (K4.out _ I.out).mono ?_
  rintro e w4 ⟨L2, e2, l2, hl2, rfl, m2_, hb4⟩
  replace U := Lib.hid (U.out.later hb4)
  replace I := Lib.hid (I.out.later hb4)
  replace N1 := Lib.hid (N1.out.later hb4)
  replace X1 := Lib.hid (X1.out.later hb4)
  replace N2 := Lib.hid (N2.out.later hb4)
  replace X2 := Lib.hid (X2.out.later hb4)
  replace M1 := Lib.hid (M1.out.later hb4)
  clear hb4
  have M2 := Lib.hid m2_
  clear m2_
  simp only at hl1 hl2
  have hx1 := X1.out.lt
  have hx2 := X2.out.lt
  have c_X10 := X1.out.at 0 _ rfl
  have c_X11 := X1.out.at 1 _ rfl
  have c_X12 := X1.out.at 2 _ rfl
  have c_X13 := X1.out.at 3 _ rfl
  have c_X14 := X1.out.at 4 _ rfl
  have c_X15 := X1.out.at 5 _ rfl
  have c_X16 := X1.out.at 6 _ rfl
  have c_X20 := X2.out.at 0 _ rfl
  have c_X21 := X2.out.at 1 _ rfl
  have c_X22 := X2.out.at 2 _ rfl
  have c_X23 := X2.out.at 3 _ rfl
  have c_X24 := X2.out.at 4 _ rfl
  have c_X25 := X2.out.at 5 _ rfl
  have c_X26 := X2.out.at 6 _ rfl
  go_wp2_with fail
  clear c_X10 c_X11 c_X12 c_X13 c_X14 c_X15 c_X16 c_X20 c_X21 c_X22 c_X23 c_X24 c_X25 c_X26
  clear I X1 X2
  replace U := Lib.hid (U.out.push (.cells #[.bool s, .int .u32 so, .int .u64 cl, .int .u32 ti, .int .u32 pa, .int .u32 oc, .slice B1 bl.length d1] 47))
  replace N1 := Lib.hid (N1.out.push (.cells #[.bool s, .int .u32 so, .int .u64 cl, .int .u32 ti, .int .u32 pa, .int .u32 oc, .slice B1 bl.length d1] 47))
  replace N2 := Lib.hid (N2.out.push (.cells #[.bool s, .int .u32 so, .int .u64 cl, .int .u32 ti, .int .u32 pa, .int .u32 oc, .slice B1 bl.length d1] 47))
  replace M1 := Lib.hid (M1.out.push (.cells #[.bool s, .int .u32 so, .int .u64 cl, .int .u32 ti, .int .u32 pa, .int .u32 oc, .slice B1 bl.length d1] 47))
  replace M2 := Lib.hid (M2.out.push (.cells #[.bool s, .int .u32 so, .int .u64 cl, .int .u32 ti, .int .u32 pa, .int .u32 oc, .slice B1 bl.length d1] 47))
  replace U := Lib.hid (U.out.push (.cells #[.bool s, .int .u32 so, .int .u64 cl, .int .u32 ti, .int .u32 pa, .int .u32 oc, .slice B2 bl.length d2] 47))
  replace N1 := Lib.hid (N1.out.push (.cells #[.bool s, .int .u32 so, .int .u64 cl, .int .u32 ti, .int .u32 pa, .int .u32 oc, .slice B2 bl.length d2] 47))
  replace N2 := Lib.hid (N2.out.push (.cells #[.bool s, .int .u32 so, .int .u64 cl, .int .u32 ti, .int .u32 pa, .int .u32 oc, .slice B2 bl.length d2] 47))
  replace M1 := Lib.hid (M1.out.push (.cells #[.bool s, .int .u32 so, .int .u64 cl, .int .u32 ti, .int .u32 pa, .int .u32 oc, .slice B2 bl.length d2] 47))
  replace M2 := Lib.hid (M2.out.push (.cells #[.bool s, .int .u32 so, .int .u64 cl, .int .u32 ti, .int .u32 pa, .int .u32 oc, .slice B2 bl.length d2] 47))
  have T1 := (RowsAt.lit0 (size := 7) w4 47 TR.row [⟨⟨s, so, cl, ti, pa, oc, bl⟩, B1, d1⟩] #[.bool s, .int .u32 so, .int .u64 cl, .int .u32 ti, .int .u32 pa, .int .u32 oc, .slice B1 bl.length d1] rfl (fun _ => rfl)).push (.cells #[.bool s, .int .u32 so, .int .u64 cl, .int .u32 ti, .int .u32 pa, .int .u32 oc, .slice B2 bl.length d2] 47)
  have T2 : RowsAt ((w4.alloc (.cells #[.bool s, .int .u32 so, .int .u64 cl, .int .u32 ti, .int .u32 pa, .int .u32 oc, .slice B1 bl.length d1] 47)).alloc (.cells #[.bool s, .int .u32 so, .int .u64 cl, .int .u32 ti, .int .u32 pa, .int .u32 oc, .slice B2 bl.length d2] 47)) ((w4.alloc (.cells #[.bool s, .int .u32 so, .int .u64 cl, .int .u32 ti, .int .u32 pa, .int .u32 oc, .slice B1 bl.length d1] 47)).alloc (.cells #[.bool s, .int .u32 so, .int .u64 cl, .int .u32 ti, .int .u32 pa, .int .u32 oc, .slice B2 bl.length d2] 47)).heap.size 7 TR.row (some ⟨w4.heap.size + 1, 0, none⟩) [⟨⟨s, so, cl, ti, pa, oc, bl⟩, B2, d2⟩] := by
    have := RowsAt.lit0 (size := 7) (w4.alloc (.cells #[.bool s, .int .u32 so, .int .u64 cl, .int .u32 ti, .int .u32 pa, .int .u32 oc, .slice B1 bl.length d1] 47)) 47 TR.row [⟨⟨s, so, cl, ti, pa, oc, bl⟩, B2, d2⟩] #[.bool s, .int .u32 so, .int .u64 cl, .int .u32 ti, .int .u32 pa, .int .u32 oc, .slice B2 bl.length d2] rfl (fun _ => rfl)
    rw [size_alloc1 w4] at this
    exact this
  have S1 : Rpts ((w4.alloc (.cells #[.bool s, .int .u32 so, .int .u64 cl, .int .u32 ti, .int .u32 pa, .int .u32 oc, .slice B1 bl.length d1] 47)).alloc (.cells #[.bool s, .int .u32 so, .int .u64 cl, .int .u32 ti, .int .u32 pa, .int .u32 oc, .slice B2 bl.length d2] 47)) ((w4.alloc (.cells #[.bool s, .int .u32 so, .int .u64 cl, .int .u32 ti, .int .u32 pa, .int .u32 oc, .slice B1 bl.length d1] 47)).alloc (.cells #[.bool s, .int .u32 so, .int .u64 cl, .int .u32 ti, .int .u32 pa, .int .u32 oc, .slice B2 bl.length d2] 47)).heap.size (some ⟨w4.heap.size, 0, none⟩) [⟨⟨s, so, cl, ti, pa, oc, bl⟩, B1, d1⟩] := ⟨T1, fun a ha => by rw [List.mem_singleton.1 ha]; exact N1.out⟩
  have S2 : Rpts ((w4.alloc (.cells #[.bool s, .int .u32 so, .int .u64 cl, .int .u32 ti, .int .u32 pa, .int .u32 oc, .slice B1 bl.length d1] 47)).alloc (.cells #[.bool s, .int .u32 so, .int .u64 cl, .int .u32 ti, .int .u32 pa, .int .u32 oc, .slice B2 bl.length d2] 47)) ((w4.alloc (.cells #[.bool s, .int .u32 so, .int .u64 cl, .int .u32 ti, .int .u32 pa, .int .u32 oc, .slice B1 bl.length d1] 47)).alloc (.cells #[.bool s, .int .u32 so, .int .u64 cl, .int .u32 ti, .int .u32 pa, .int .u32 oc, .slice B2 bl.length d2] 47)).heap.size (some ⟨w4.heap.size + 1, 0, none⟩) [⟨⟨s, so, cl, ti, pa, oc, bl⟩, B2, d2⟩] := ⟨T2, fun a ha => by rw [List.mem_singleton.1 ha]; exact N2.out⟩
  clear T1 T2
  clear N1 N2
  refine (rSame_any (some ⟨w4.heap.size, 0, none⟩) (some ⟨w4.heap.size + 1, 0, none⟩) [⟨⟨s, so, cl, ti, pa, oc, bl⟩, B1, d1⟩] [⟨⟨s, so, cl, ti, pa, oc, bl⟩, B2, d2⟩] 1 1 _ 1 rfl rfl S1 S2 (by omega) (fun a ha => by rw [List.mem_singleton.1 ha]; simp only; omega)).mono ?_
  rintro e w5 ⟨rfl, hb5⟩
  replace U := Lib.hid (U.out.later hb5)
  replace M1 := Lib.hid (M1.out.later hb5)
  replace M2 := Lib.hid (M2.out.later hb5)
  clear hb5
  clear S1 S2
  have hle : l1.length = l2.length := by
    have h1 := congrArg List.length hl1
    have h2 := congrArg List.length hl2
    simp only [List.length_map] at h1 h2
    omega
  have hle2 : l1.length ≤ 5000 := by
    have h1 := congrArg List.length hl1
    simp only [List.length_map] at h1
    omega
  have HLE := Lib.hid hle
  clear hle
  go_wp2_with fail
  rw [← HLE.out]
  refine (rSame_any L1 L2 l1 l2 e1 e2 _ l1.length rfl (hl1.trans hl2.symm) M1.out M2.out (by omega) (fun a ha => by have := HB3.out a.r (by rw [← hl1]; exact List.mem_map_of_mem ha); omega)).mono ?_
  rintro e w6 ⟨rfl, hb6⟩
  replace U := Lib.hid (U.out.later hb6)
  replace M1 := Lib.hid (M1.out.later hb6)
  replace M2 := Lib.hid (M2.out.later hb6)
  clear hb6
  go_wp2_with fail
  refine (lives26 _).mono ?_
  rintro e w7 ⟨rfl, hb7⟩
  replace U := Lib.hid (U.out.later hb7)
  replace M1 := Lib.hid (M1.out.later hb7)
  replace M2 := Lib.hid (M2.out.later hb7)
  clear hb7
  go_wp2_with fail
  go_ret
  exact ⟨by simp, U.out⟩
theorem walk (w : World) (A : Option Addr) (bs : List Int) (cap : Nat) (hl : bs.length ≤ cap) (hm : cap ≤ maxLen) (hA : IntsAt w w.heap.size .u8 A bs) (hz : ∀ z ∈ bs, (Lit.int .u8 z).wf = true) :
    Calls Try.prog 8 #[.slice A bs.length cap] w fun e w' => e = .returned (.bool true) ∧ Below w.heap.size w w' :=
  main w A bs cap hl hm hA (fun z h => by have := hz z h; simpa [Lit.wf, IntKind.min, IntKind.max, IntKind.signed, IntKind.bits] using this)
end Go.Proofs.Ythmcbmjjngolmaa.reportDecodes
