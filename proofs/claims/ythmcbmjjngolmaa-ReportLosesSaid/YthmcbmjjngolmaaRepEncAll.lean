/- Layer 26: EncodeAll, of the program and of the reference. -/
import Derived.Test.YthmcbmjjngolmaaRepMem
namespace Go.Proofs.Ythmcbmjjngolmaa
open Go.RowKit
set_option linter.unusedVariables false
set_option linter.unusedSimpArgs false
attribute [local go_sem] setCell_drewN alloc_drewN
section
variable (A : Option Addr) (l : List TR) (c : Nat) (w : World)
set_option maxRecDepth 100000 in
set_option maxHeartbeats 3200000 in
theorem EncodeAll_any (n : Nat) (hn : l.length = n) (hl : n ≤ 20) (hA : Rpts w w.heap.size A l) (hok : ∀ a ∈ l, a.r.ok) : Calls Try.prog 21 #[.slice A n c] w (EncR (Rep.encAll (l.map TR.r)) w) := by
  subst hn
  have HA := Lib.hid hA
  have HK := Lib.hid hok
  obtain ⟨R, hR⟩ : ∃ R, R = Rep.encAll (l.map TR.r) := ⟨_, rfl⟩
  rw [← hR]
  have h0 : Hid (R = Rep.after [] (Rep.encAll ((l.drop 0).map TR.r))) := Lib.hid (by rw [hR, Rep.after_nil]; rfl)
  clear hA hok hR
  go_enter Try.func21, Try.ntmps21
  go_wp2_with fail
  go_loopg [4, 11] l.length (fun gk s4 s11 wr => ∃ (k : Nat) (A' : Option Addr) (c' : Nat) (out : List Int), gk + k = l.length ∧ s11 = .int .i64 k ∧ s4 = .slice A' out.length c' ∧ Hid (out.length ≤ 800 * k) ∧ Hid (R = Rep.after out (Rep.encAll ((l.drop k).map TR.r))) ∧ Hid (Owns wr w.heap.size 5 1 A' out.length c' (u8s out)) ∧ Hid (Bel w wr))
  case atStart => exact ⟨0, none, 0, [], rfl, rfl, rfl, Lib.hid (by simp), h0, Lib.hid Owns.nil, Lib.hid (Bel.refl w)⟩
  case round =>
    clear h0
    obtain ⟨k, A', c', out, hg, rfl, rfl, HL, HE, HO, HU⟩ := hrel
    by_cases hlt : k < l.length
    · obtain ⟨a, ha⟩ : ∃ a, l[k]? = some a := ⟨_, List.getElem?_eq_getElem hlt⟩
      have hdrop : l.drop k = a :: l.drop (k + 1) := by
        rw [List.drop_eq_getElem_cons hlt]
        congr 1
        exact (List.getElem?_eq_some_iff.1 ha).2
      have HAA := HA.out.keep (fun p hp => HU.out.cell hp)
      obtain ⟨b, off, rfl, hbB, e0, e1, e2, e3, e4, e5, e6⟩ := rowsT HAA.1 ha
      have HB := HAA.2 a (List.mem_of_getElem? ha)
      have hok := HK.out a (List.mem_of_getElem? ha)
      have hlen := Rep.enc_len a.r
      have herr := Rep.enc_err a.r
      obtain ⟨⟨s, so, cl, ti, pa, oc, bl⟩, B, cb⟩ := a
      simp only at e0 e1 e2 e3 e4 e5 e6 HB hok hlen herr
      have he := HE.out
      rw [hdrop, List.map_cons] at he
      simp only at he
      obtain ⟨rr, hrr⟩ : ∃ rr, rr = Rep.Rpt.mk s so cl ti pa oc bl := ⟨_, rfl⟩
      have k1 := fun W h => Encode_any s so cl ti pa oc B bl cb W hok h
      rw [← hrr] at he hlen herr
      simp only [← hrr] at k1
      have hz0 : 0 ≤ (Rep.enc rr).2 := herr.1
      have hgood := Rep.after_step out rr ((l.drop (k + 1)).map TR.r)
      have hbad := Rep.after_bad out rr ((l.drop (k + 1)).map TR.r)
      rw [← he] at hgood hbad
      generalize Rep.enc rr = E at *
      obtain ⟨bs, er⟩ := E
      simp only at hgood hbad hlen hz0
      have K1 := Lib.hid k1
      have HGOOD := Lib.hid hgood
      have HBAD := Lib.hid hbad
      have HBB := Lib.hid HB
      have hln := HL.out
      clear k1 hgood hbad HE he hdrop ha herr hok HAA HB hrr
      have hi0 : (0 : Int) ≤ (k : Int) := by omega
      have hi1 : (k : Int) < (l.length : Int) := by omega
      go_wp2_with fail
      have HU1 := Lib.hid (HU.out.push (.cells #[.bool s, .int .u32 so, .int .u64 cl, .int .u32 ti, .int .u32 pa, .int .u32 oc, .slice B bl.length cb] 47))
      have HO1 := Lib.hid (HO.out.alloc (.cells #[.bool s, .int .u32 so, .int .u64 cl, .int .u32 ti, .int .u32 pa, .int .u32 oc, .slice B bl.length cb] 47))
      clear HO
      have HO := HO1
      clear HO1 e0 e1 e2 e3 e4 e5 e6
      refine (K1.out _ ((HBB.out.keep (fun p hp => World.cell?_alloc_lt _ _ _ (Nat.lt_of_lt_of_le hp HU.out.size))).more (Nat.le_trans HU.out.size (by simp)))).mono ?_
      clear HU
      have HU := HU1
      clear HU1
      rintro e w2 ⟨A2, c2, rfl, hI, hb2⟩
      have HU2 := Lib.hid (HU.out.later hb2)
      have HO2 := Lib.hid (HO.out.below hb2)
      have HI := Lib.hid hI
      clear HU HO hb2 hI
      simp only at HI
      by_cases hz : er = 0
      · subst hz
        have hR := HGOOD.out rfl
        have HR := Lib.hid hR
        clear hR HGOOD HBAD
        have hbs := HU2.out.size
        go_wp2_with (at_builtin; go_loud (refine wpList_append_ints rfl (.tmp 23) (.tmp 24) 40 rfl w.heap.size 5 1 (.int .u8 0) Try.underlying40 info_u8 rfl _ out.length _ (u8s out) rfl HO2.out _ .u8 A2 c2 bs rfl HI.out.1 (by unfold maxLen; omega) (by omega) hbs (out ++ bs).length (by rw [List.length_append]) ?_); intro An cn wn hown hgr hat)
        go_roundg (gk - 1)
        case measure => omega
        case rel => exact ⟨k + 1, An, cn, out ++ bs, by omega, by go_num, by rw [List.length_append], Lib.hid (by rw [List.length_append]; omega), HR, Lib.hid (own_list hown rfl), Lib.hid (HU2.out.grown hgr hbs (fun g e => (HO2.out.block g e).1))⟩
      · have hR := HBAD.out hz
        have HR := Lib.hid hR
        clear hR HGOOD HBAD
        have hz' : (er != 0) = true := bne_iff_ne.2 hz
        go_wp2_with fail
        go_ret2
        rw [HR.out]
        exact ⟨none, 0, rfl, IntsNew.nil, HU2.out⟩
    · obtain rfl : k = l.length := by omega
      have hi1 : (l.length : Int) ≤ (l.length : Int) := Int.le_refl _
      have hR : R = (out, 0) := by
        have := HE.out
        rw [List.drop_length] at this
        rw [this]
        simp [Rep.after, Rep.encAll]
      have HR := Lib.hid hR
      clear hR HE
      go_wp2_with fail
      go_ret2
      rw [HR.out]
      exact ⟨A', c', rfl, IntsNew.of_own HO.out (Nat.le_refl _), HU.out⟩
set_option maxRecDepth 100000 in
set_option maxHeartbeats 3200000 in
theorem rEncodeAll_any (n : Nat) (hn : l.length = n) (hl : n ≤ 20) (hA : Rpts w w.heap.size A l) (hok : ∀ a ∈ l, a.r.ok) : Calls Try.prog 22 #[.slice A n c] w (EncR (Rep.encAll (l.map TR.r)) w) := by
  subst hn
  have HA := Lib.hid hA
  have HK := Lib.hid hok
  obtain ⟨R, hR⟩ : ∃ R, R = Rep.encAll (l.map TR.r) := ⟨_, rfl⟩
  rw [← hR]
  have h0 : Hid (R = Rep.after [] (Rep.encAll ((l.drop 0).map TR.r))) := Lib.hid (by rw [hR, Rep.after_nil]; rfl)
  clear hA hok hR
  go_enter Try.func22, Try.ntmps22
  go_wp2_with fail
  go_loopg [5, 4] l.length (fun gk s5 s4 wr => ∃ (k : Nat) (A' : Option Addr) (c' : Nat) (out : List Int), gk + k = l.length ∧ s5 = .int .i64 k ∧ s4 = .slice A' out.length c' ∧ Hid (out.length ≤ 800 * k) ∧ Hid (R = Rep.after out (Rep.encAll ((l.drop k).map TR.r))) ∧ Hid (Owns wr w.heap.size 5 1 A' out.length c' (u8s out)) ∧ Hid (Bel w wr))
  case atStart => exact ⟨0, none, 0, [], rfl, rfl, rfl, Lib.hid (by simp), h0, Lib.hid Owns.nil, Lib.hid (Bel.refl w)⟩
  case round =>
    clear h0
    obtain ⟨k, A', c', out, hg, rfl, rfl, HL, HE, HO, HU⟩ := hrel
    by_cases hlt : k < l.length
    · obtain ⟨a, ha⟩ : ∃ a, l[k]? = some a := ⟨_, List.getElem?_eq_getElem hlt⟩
      have hdrop : l.drop k = a :: l.drop (k + 1) := by
        rw [List.drop_eq_getElem_cons hlt]
        congr 1
        exact (List.getElem?_eq_some_iff.1 ha).2
      have HAA := HA.out.keep (fun p hp => HU.out.cell hp)
      obtain ⟨b, off, rfl, hbB, e0, e1, e2, e3, e4, e5, e6⟩ := rowsT HAA.1 ha
      have HB := HAA.2 a (List.mem_of_getElem? ha)
      have hok := HK.out a (List.mem_of_getElem? ha)
      have hlen := Rep.enc_len a.r
      have herr := Rep.enc_err a.r
      obtain ⟨⟨s, so, cl, ti, pa, oc, bl⟩, B, cb⟩ := a
      simp only at e0 e1 e2 e3 e4 e5 e6 HB hok hlen herr
      have he := HE.out
      rw [hdrop, List.map_cons] at he
      simp only at he
      obtain ⟨rr, hrr⟩ : ∃ rr, rr = Rep.Rpt.mk s so cl ti pa oc bl := ⟨_, rfl⟩
      have k1 := fun W h => rEncode_any s so cl ti pa oc B bl cb W hok h
      rw [← hrr] at he hlen herr
      simp only [← hrr] at k1
      have hz0 : 0 ≤ (Rep.enc rr).2 := herr.1
      have hgood := Rep.after_step out rr ((l.drop (k + 1)).map TR.r)
      have hbad := Rep.after_bad out rr ((l.drop (k + 1)).map TR.r)
      rw [← he] at hgood hbad
      generalize Rep.enc rr = E at *
      obtain ⟨bs, er⟩ := E
      simp only at hgood hbad hlen hz0
      have K1 := Lib.hid k1
      have HGOOD := Lib.hid hgood
      have HBAD := Lib.hid hbad
      have HBB := Lib.hid HB
      have hln := HL.out
      clear k1 hgood hbad HE he hdrop ha herr hok HAA HB hrr
      have hi0 : (0 : Int) ≤ (k : Int) := by omega
      have hi1 : (k : Int) < (l.length : Int) := by omega
      go_wp2_with fail
      clear e0 e1 e2 e3 e4 e5 e6
      refine (K1.out _ (HBB.out.more HU.out.size)).mono ?_
      rintro e w2 ⟨A2, c2, rfl, hI, hb2⟩
      have HU2 := Lib.hid (HU.out.later hb2)
      have HO2 := Lib.hid (HO.out.below hb2)
      have HI := Lib.hid hI
      clear HU HO hb2 hI
      simp only at HI
      by_cases hz : er = 0
      · subst hz
        have hR := HGOOD.out rfl
        have HR := Lib.hid hR
        clear hR HGOOD HBAD
        have hbs := HU2.out.size
        go_wp2_with (at_builtin; go_loud (refine wpList_append_ints rfl (.tmp 25) (.tmp 26) 40 rfl w.heap.size 5 1 (.int .u8 0) Try.underlying40 info_u8 rfl _ out.length _ (u8s out) rfl HO2.out _ .u8 A2 c2 bs rfl HI.out.1 (by unfold maxLen; omega) (by omega) hbs (out ++ bs).length (by rw [List.length_append]) ?_); intro An cn wn hown hgr hat)
        go_roundg (gk - 1)
        case measure => omega
        case rel => exact ⟨k + 1, An, cn, out ++ bs, by omega, by go_num, by rw [List.length_append], Lib.hid (by rw [List.length_append]; omega), HR, Lib.hid (own_list hown rfl), Lib.hid (HU2.out.grown hgr hbs (fun g e => (HO2.out.block g e).1))⟩
      · have hR := HBAD.out hz
        have HR := Lib.hid hR
        clear hR HGOOD HBAD
        have hz' : (er != 0) = true := bne_iff_ne.2 hz
        go_wp2_with fail
        go_ret2
        rw [HR.out]
        exact ⟨none, 0, rfl, IntsNew.nil, HU2.out⟩
    · obtain rfl : k = l.length := by omega
      have hi1 : (l.length : Int) ≤ (l.length : Int) := Int.le_refl _
      have hR : R = (out, 0) := by
        have := HE.out
        rw [List.drop_length] at this
        rw [this]
        simp [Rep.after, Rep.encAll]
      have HR := Lib.hid hR
      clear hR HE
      go_wp2_with fail
      go_ret2
      rw [HR.out]
      exact ⟨A', c', rfl, IntsNew.of_own HO.out (Nat.le_refl _), HU.out⟩
end
end Go.Proofs.Ythmcbmjjngolmaa
