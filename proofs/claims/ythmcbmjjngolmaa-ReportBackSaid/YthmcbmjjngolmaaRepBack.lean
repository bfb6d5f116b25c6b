/- Layer 26, ReportBack: for every reports and bytes the law returns true. -/
import Derived.Test.YthmcbmjjngolmaaRepSame
import Derived.Test.YthmcbmjjngolmaaRepBackQ
import Derived.Test.YthmcbmjjngolmaaRepEncBig
namespace Go.Proofs.Ythmcbmjjngolmaa.reportBack
open Go.RowKit
set_option linter.unusedVariables false
set_option linter.unusedSimpArgs false
attribute [local go_sem ↓] run_min_plain run_max_plain
attribute [local go_sem] setCell_drewN alloc_drewN
set_option maxRecDepth 100000 in
set_option maxHeartbeats 6400000 in
theorem main (w : World) (A0 : Option Addr) (l : List TR) (c0 : Nat) (hl0 : l.length ≤ c0) (hm0 : c0 ≤ maxLen) (hR : RowsAt w w.heap.size 7 TR.row A0 l) (hok : ∀ a ∈ l, RowsAt w w.heap.size 7 Rep.Bk.cells a.B a.r.blocks ∧ a.r.ok) (A : Option Addr) (bs : List Int) (cap : Nat) (hl : bs.length ≤ cap) (hm : cap ≤ maxLen) (hA : IntsAt w w.heap.size .u8 A bs) (hz : Within 0 255 bs) :
    Calls Try.prog 9 #[.slice A0 l.length c0, .slice A bs.length cap] w fun e w' => e = .returned (.bool true) ∧ Below w.heap.size w w' := by
  have hmm : l.length ≤ maxLen := Nat.le_trans hl0 hm0
  have kf := few_any A0 l c0 w l.length rfl hR hmm
  have KF := Lib.hid kf
  have HR := Lib.hid (show Rpts w w.heap.size A0 l from ⟨hR, fun a ha => (hok a ha).1⟩)
  have HK := Lib.hid (fun a (ha : a ∈ l) => (hok a ha).2)
  have I := Lib.hid hA
  clear kf hR hok hA
  by_cases h5 : 5000 < bs.length
  · have h5' : (5000 : Int) < (bs.length : Int) := by omega
    go_enter Try.func9, Try.ntmps9
    go_wp2_with fail
    refine KF.out.mono ?_
    rintro e w1 ⟨b, rfl, rfl, hb⟩
    clear hb
    cases b
    all_goals
      go_wp2_with fail
      refine (lives26 _).mono ?_
      rintro e w1 ⟨rfl, hb1⟩
      go_wp2_with fail
      go_ret
      exact ⟨rfl, hb1⟩
  have h5' : (bs.length : Int) ≤ 5000 := by omega
  have k3 := fun W h => DecodeAll_any A bs cap W bs.length rfl h hz (by omega) hl
  have hbad := Rep.decAll_bad bs hz (bs.length + 1) 0 [] (by omega) (by omega)
  have hlen := Rep.decAll_len (bs.length + 1) bs hz 0 [] (fun _ h => by cases h)
  have hgood := Rep.encAll_decAll bs hz (bs.length + 1) 0 []
  generalize Rep.decAll (bs.length + 1) bs 0 [] = R at *
  obtain ⟨rs, n2, er2⟩ := R
  simp only at hbad hlen
  have hgood2 : er2 = 0 → Rep.encAll rs = (bs, 0) ∧ ∀ r ∈ rs, r.ok := by
    intro h
    subst h
    obtain ⟨l', e1, e2, e3⟩ := hgood rs n2 (by omega) rfl
    rw [List.nil_append] at e1
    subst e1
    exact ⟨e2, e3⟩
  have K3 := Lib.hid k3
  have HG := Lib.hid hgood2
  have HBD := Lib.hid hbad
  have HLN := Lib.hid hlen
  clear k3 hgood hgood2 hbad hlen
  go_enter Try.func9, Try.ntmps9
  go_wp2_with fail
  refine KF.out.mono ?_
  rintro e w1 ⟨b, rfl, rfl, hb⟩
  cases b
  · go_wp2_with fail
    refine (lives26 _).mono ?_
    rintro e w1 ⟨rfl, hb1⟩
    go_wp2_with fail
    go_ret
    exact ⟨rfl, hb1⟩
  have h20 := hb rfl
  clear hb
  have U := Lib.hid (Bel.refl w)
  go_wp2_with fail
  have k1 := EncodeAll_big A0 l c0 w l.length rfl (by omega) HR.out HK.out
  have hdec := Rep.decAll_encAll (l.map TR.r) ((Rep.encAll (l.map TR.r)).1.length + 1) [] [] (fun r hr => by obtain ⟨a, ha, rfl⟩ := List.mem_map.1 hr; exact HK.out a ha)
  have hxl := Rep.encAll_len (l.map TR.r)
  have hxb := Rep.encAll_bd (l.map TR.r)
  have hblk := Rep.encAll_blocks (l.map TR.r)
  rw [List.length_map] at hxl
  generalize Rep.encAll (l.map TR.r) = E at *
  obtain ⟨xs, er⟩ := E
  simp only [List.nil_append, List.length_nil] at hdec hxl hxb hblk
  have HBK := Lib.hid hblk
  clear hblk
  have HD := Lib.hid hdec
  have HXB := Lib.hid hxb
  clear hdec hxb
  refine k1.mono ?_
  clear k1
  rintro e w2 ⟨A1, c1, rfl, hc1, ⟨hI, _⟩, hb2⟩
  simp only at hc1
  have J := Lib.hid hI
  replace U := Lib.hid (U.out.later hb2)
  replace HR := Lib.hid (HR.out.later hb2)
  replace I := Lib.hid (I.out.later hb2)
  clear hI hb2
  simp only at J
  have hsame : ∀ r ∈ l.map TR.r, r.blocks.length ≤ 1000000 ∨ True := fun _ _ => .inr trivial
  clear hsame
  by_cases hze : er = 0
  · subst hze
    have hd := HD.out rfl (by omega)
    have kd := DecodeAll_any A1 xs c1 w2 xs.length rfl J.out HXB.out (by omega) hc1
    rw [hd] at kd
    have KD := Lib.hid kd
    clear kd hd
    go_wp2_with fail
    refine KD.out.mono ?_
    rintro e w3 ⟨L3, c3, l3, hl3, rfl, hm3, hb3⟩
    simp only at hl3
    have hle : l.length = l3.length := by
      have h1 := congrArg List.length hl3
      simp only [List.length_map] at h1
      omega
    have HLE := Lib.hid hle
    have M3 := Lib.hid hm3
    replace U := Lib.hid (U.out.later hb3)
    replace HR := Lib.hid (HR.out.later hb3)
    replace I := Lib.hid (I.out.later hb3)
    clear hb3 hm3 hle KD
    simp only
    go_wp2_with fail
    rw [← HLE.out]
    refine (rSame_any A0 L3 l l3 c0 c3 w3 l.length rfl hl3.symm HR.out M3.out (by omega) (fun a ha => by have := HBK.out (by first | rfl | trivial) a.r (List.mem_map_of_mem ha); omega)).mono ?_
    rintro e w4 ⟨rfl, hb4⟩
    replace U := Lib.hid (U.out.later hb4)
    replace I := Lib.hid (I.out.later hb4)
    clear hb4
    go_wp2_with fail
    have k3 := K3.out w4 I.out
    refine k3.mono ?_
    clear k3
    rintro e w5 ⟨L1, e1, l1, hl1, rfl, m1_, hb5⟩
    replace U := Lib.hid (U.out.later hb5)
    replace I := Lib.hid (I.out.later hb5)
    have M1 := Lib.hid m1_
    clear hb5 m1_
    simp only at hl1 ⊢
    by_cases hz2 : er2 = 0
    rotate_left
    · obtain ⟨q1, q2, q3⟩ := HBD.out hz2
      subst q1
      obtain rfl : l1 = [] := by simpa using hl1
      have hz2' : (er2 != 0) = true := bne_iff_ne.2 hz2
      go_wp2_with fail
      refine (lives26 _).mono ?_
      rintro e w6 ⟨rfl, hb6⟩
      go_wp2_with fail
      go_ret
      exact ⟨by simp, U.out.later hb6⟩
    subst hz2
    obtain ⟨q1, q2⟩ := HG.out rfl
    subst hl1
    have Q1 := Lib.hid q1
    have hln := HLN.out.1
    simp only [List.length_map, List.length_nil, Nat.zero_add] at hln
    have k4 := EncodeAll_big L1 l1 e1 w5 l1.length rfl (by omega) M1.out (fun a ha => q2 a.r (List.mem_map_of_mem ha))
    rw [Q1.out] at k4
    have K4 := Lib.hid k4
    clear k4 q1 q2 hln
    go_wp2_with fail
    refine K4.out.mono ?_
    rintro e w6 ⟨A6, c6, rfl, _, ⟨hI, _⟩, hb6⟩
    have J6 := Lib.hid hI
    replace U := Lib.hid (U.out.later hb6)
    replace I := Lib.hid (I.out.later hb6)
    clear hI hb6 K4
    simp only at J6
    have hv1 := run_convert_ints J6.out 40 9 5 Try.underlying40 Try.underlying5 Try.underlying9 bs.length c6 rfl
    have hv2 := run_convert_ints I.out 40 9 5 Try.underlying40 Try.underlying5 Try.underlying9 bs.length cap rfl
    simp only
    go_wp2_with fail
    refine (lives26 _).mono ?_
    rintro e w7 ⟨rfl, hb7⟩
    go_wp2_with fail
    go_ret
    exact ⟨by simp, U.out.later hb7⟩
  · have hze' : (er == 0) = false := beq_eq_false_iff_ne.2 hze
    go_wp2_with fail
    have k3 := K3.out w2 I.out
    refine k3.mono ?_
    clear k3
    rintro e w5 ⟨L1, e1, l1, hl1, rfl, m1_, hb5⟩
    replace U := Lib.hid (U.out.later hb5)
    replace I := Lib.hid (I.out.later hb5)
    have M1 := Lib.hid m1_
    clear hb5 m1_
    simp only at hl1 ⊢
    by_cases hz2 : er2 = 0
    rotate_left
    · obtain ⟨q1, q2, q3⟩ := HBD.out hz2
      subst q1
      obtain rfl : l1 = [] := by simpa using hl1
      have hz2' : (er2 != 0) = true := bne_iff_ne.2 hz2
      go_wp2_with fail
      refine (lives26 _).mono ?_
      rintro e w6 ⟨rfl, hb6⟩
      go_wp2_with fail
      go_ret
      exact ⟨by simp, U.out.later hb6⟩
    subst hz2
    obtain ⟨q1, q2⟩ := HG.out rfl
    subst hl1
    have Q1 := Lib.hid q1
    have hln := HLN.out.1
    simp only [List.length_map, List.length_nil, Nat.zero_add] at hln
    have k4 := EncodeAll_big L1 l1 e1 w5 l1.length rfl (by omega) M1.out (fun a ha => q2 a.r (List.mem_map_of_mem ha))
    rw [Q1.out] at k4
    have K4 := Lib.hid k4
    clear k4 q1 q2 hln
    go_wp2_with fail
    refine K4.out.mono ?_
    rintro e w6 ⟨A6, c6, rfl, _, ⟨hI, _⟩, hb6⟩
    have J6 := Lib.hid hI
    replace U := Lib.hid (U.out.later hb6)
    replace I := Lib.hid (I.out.later hb6)
    clear hI hb6 K4
    simp only at J6
    have hv1 := run_convert_ints J6.out 40 9 5 Try.underlying40 Try.underlying5 Try.underlying9 bs.length c6 rfl
    have hv2 := run_convert_ints I.out 40 9 5 Try.underlying40 Try.underlying5 Try.underlying9 bs.length cap rfl
    simp only
    go_wp2_with fail
    refine (lives26 _).mono ?_
    rintro e w7 ⟨rfl, hb7⟩
    go_wp2_with fail
    go_ret
    exact ⟨by simp, U.out.later hb7⟩
theorem walk (w : World) (A0 : Option Addr) (l : List TR) (c0 : Nat) (hl0 : l.length ≤ c0) (hm0 : c0 ≤ maxLen) (hR : RowsAt w w.heap.size 7 TR.row A0 l) (hok : ∀ a ∈ l, RowsAt w w.heap.size 7 Rep.Bk.cells a.B a.r.blocks ∧ a.r.ok) (A : Option Addr) (bs : List Int) (cap : Nat) (hl : bs.length ≤ cap) (hm : cap ≤ maxLen) (hA : IntsAt w w.heap.size .u8 A bs) (hz : ∀ z ∈ bs, (Lit.int .u8 z).wf = true) :
    Calls Try.prog 9 #[.slice A0 l.length c0, .slice A bs.length cap] w fun e w' => e = .returned (.bool true) ∧ Below w.heap.size w w' :=
  main w A0 l c0 hl0 hm0 hR hok A bs cap hl hm hA (fun z h => by have := hz z h; simpa [Lit.wf, IntKind.min, IntKind.max, IntKind.signed, IntKind.bits] using this)
end Go.Proofs.Ythmcbmjjngolmaa.reportBack
