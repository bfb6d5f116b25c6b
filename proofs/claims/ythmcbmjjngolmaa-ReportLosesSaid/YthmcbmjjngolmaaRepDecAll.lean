/- Layer 26: DecodeAll, of the program and of the reference. -/
import Derived.Test.YthmcbmjjngolmaaRepMem
namespace Go.Proofs.Ythmcbmjjngolmaa
open Go.RowKit
set_option linter.unusedVariables false
set_option linter.unusedSimpArgs false
attribute [local go_sem] setCell_drewN alloc_drewN
namespace Rep
theorem dec_facts (bs : List Int) (hz : Within 0 255 bs) : 0 ≤ (dec bs).2.1 ∧ (dec bs).2.1 ≤ bs.length ∧ 0 ≤ (dec bs).2.2 ∧ (dec bs).2.2 ≤ 255 ∧ ((dec bs).2.2 = 0 → 8 ≤ (dec bs).2.1) := by
  unfold dec
  by_cases h : bs.length < 4
  · rw [if_pos h]; simp
  rw [if_neg h]
  split
  · simp
  split
  · simp only; omega
  split
  · simp only; omega
  split
  · simp
  · rename_i h5
    simp only
    refine ⟨?_, by omega, by omega, by omega, fun _ => ?_⟩ <;> (unfold sizeR; split <;> omega)
/-- the reports from at on, behind those of out -/
def decAll : Nat → List Int → Nat → List Rpt → List Rpt × Int × Int
  | 0, _, _, _ => ([], 0, 255)
  | f + 1, bs, i, out => if bs.length ≤ i then (out, 0, 0) else if (dec (bs.drop i)).2.2 = 0 then decAll f bs (i + (dec (bs.drop i)).2.1.toNat) (out ++ [(dec (bs.drop i)).1]) else ([], i + (dec (bs.drop i)).2.1, (dec (bs.drop i)).2.2)
end Rep
theorem info_rp : (Try.prog.info? 47).map (fun i => (i.zero, i.size, i.bytes)) = some (some (.agg #[.bool false, .int .u32 0, .int .u64 0, .int .u32 0, .int .u32 0, .int .u32 0, .slice none 0 0]), 7, 56) := by kernel_rfl
/-- what DecodeAll leaves -/
def DecAllR (R : List Rep.Rpt × Int × Int) (w : World) (e : Ending) (w' : World) : Prop :=
  ∃ (A : Option Addr) (c : Nat) (l : List TR), l.map TR.r = R.1 ∧ e = .returned (.tuple #[.slice A l.length c, .int .i64 R.2.1, .int .u8 R.2.2]) ∧ Rpts w' w'.heap.size A l ∧ Bel w w'
/-- the blocks of each report lie apart from the list itself -/
def Sep (w : World) (A : Option Addr) (out : List TR) : Prop := ∀ a ∈ out, RowsAt w w.heap.size 7 Rep.Bk.cells a.B a.r.blocks ∧ (0 < a.r.blocks.length → ∀ b off, a.B = some ⟨b, off, none⟩ → some b ≠ ownB A)
section
variable {w w' : World} {A A2 : Option Addr} {out : List TR}
theorem Sep.later (h : Sep w A out) (hb : Below w.heap.size w w') : Sep w' A out := fun a ha => ⟨(h a ha).1.later hb, (h a ha).2⟩
theorem Sep.push (h : Sep w A out) (o : Obj) : Sep (w.alloc o) A out := fun a ha => ⟨(h a ha).1.push o, (h a ha).2⟩
theorem Sep.grow (h : Sep w A out) (hg : w.grownBy w' (ownB A)) (hat : ownB A2 = ownB A ∨ ∀ g, ownB A2 = some g → w.heap.size ≤ g) : Sep w' A2 out := fun a ha => by
  obtain ⟨h1, h2⟩ := h a ha
  refine ⟨fun h0 => ?_, fun h0 b off e => ?_⟩
  · obtain ⟨b, off, e, hb, hc⟩ := h1 h0
    have hne := h2 h0 b off e
    exact ⟨b, off, e, Nat.lt_of_lt_of_le hb hg.size, fun i x hx j v hv => hg.cell (hc i x hx j v hv) hne⟩
  · obtain ⟨b', off', e', hb, _⟩ := h1 h0
    rw [e] at e'
    injection e' with e'
    injection e' with e1 e2
    subst e1
    rcases hat with h3 | h3
    · rw [h3]; exact h2 h0 b off e
    · intro e4
      have := h3 b e4.symm
      omega
theorem Sep.snoc {a : TR} (h : Sep w A out) (h1 : RowsAt w w.heap.size 7 Rep.Bk.cells a.B a.r.blocks) (h2 : 0 < a.r.blocks.length → ∀ b off, a.B = some ⟨b, off, none⟩ → some b ≠ ownB A) : Sep w A (out ++ [a]) := fun x hx => by
  rcases List.mem_append.1 hx with hx | hx
  · exact h x hx
  · rw [List.mem_singleton.1 hx]
    exact ⟨h1, h2⟩
end
section
variable (A : Option Addr) (bs : List Int) (c : Nat) (w : World)
set_option maxRecDepth 100000 in
set_option maxHeartbeats 3200000 in
theorem DecodeAll_any (n : Nat) (hn : bs.length = n) (hA : IntsAt w w.heap.size .u8 A bs) (hz : Within 0 255 bs) (hl : n ≤ 100000) (hc : n ≤ c) : Calls Try.prog 24 #[.slice A n c] w (DecAllR (Rep.decAll (bs.length + 1) bs 0 []) w) := by
  subst hn
  have HA := Lib.hid hA
  have HZ := Lib.hid hz
  obtain ⟨R, hR⟩ : ∃ R, R = Rep.decAll (bs.length + 1) bs 0 [] := ⟨_, rfl⟩
  rw [← hR]
  have h0 := Lib.hid hR
  clear hA hz hR
  go_enter Try.func24, Try.ntmps24
  go_wp2_with fail
  go_loopg [5, 6] bs.length (fun gk s5 s6 wr => ∃ (i f : Nat) (A' : Option Addr) (c' : Nat) (out : List TR), gk + i = bs.length ∧ gk < f ∧ s6 = .int .i64 i ∧ s5 = .slice A' out.length c' ∧ Hid (out.length ≤ i) ∧ Hid (R = Rep.decAll f bs i (out.map TR.r)) ∧ Hid (Owns wr w.heap.size 47 7 A' out.length c' (out.flatMap TR.row)) ∧ Hid (Sep wr A' out) ∧ Hid (Bel w wr))
  case atStart => exact ⟨0, bs.length + 1, none, 0, [], rfl, by omega, rfl, rfl, Lib.hid (by simp), h0, Lib.hid Owns.nil, Lib.hid (fun _ h => by cases h), Lib.hid (Bel.refl w)⟩
  case round =>
    clear h0
    obtain ⟨i, f, A', c', out, hg, hf, rfl, rfl, HL, HE, HO, HS, HU⟩ := hrel
    by_cases hlt : i < bs.length
    · obtain ⟨f, rfl⟩ : ∃ g, f = g + 1 := ⟨f - 1, by omega⟩
      have he := HE.out
      unfold Rep.decAll at he
      rw [if_neg (by omega)] at he
      have hA0 := HA.out.below HU.out
      obtain ⟨b, off, rfl, hbB, _⟩ := HA.out (by omega)
      have hIA : IntsAt wr wr.heap.size .u8 (some ⟨b, off + i, none⟩) (bs.drop i) := by
        obtain ⟨b', off', e1, h1⟩ := hA0.drop i hlt
        injection e1 with e1
        injection e1 with e1 e2
        subst e1 e2
        exact h1.more HU.out.size
      have hzd := HZ.out.drop i
      have hfacts := Rep.dec_facts (bs.drop i) hzd
      have hlen : (bs.drop i).length = bs.length - i := List.length_drop
      have k1 := fun hm => Decode_any (some ⟨b, off + i, none⟩) (bs.drop i) (c - i) wr hIA hzd hm 
      rw [hlen] at k1 hfacts
      generalize Rep.dec (bs.drop i) = D at *
      obtain ⟨⟨s, so, cl, ti, pa, oc, bl⟩, n, er⟩ := D
      simp only at he hfacts
      obtain ⟨hf0, hf1, hf2, hf3, hf4⟩ := hfacts
      have K1 := Lib.hid (k1 (by unfold maxLen; omega))
      have HE2 := Lib.hid he
      clear HE he k1 hA0 hIA hzd hlen
      have hi0 : (0 : Int) ≤ (i : Int) := by omega
      have hi1 : (i : Int) < (bs.length : Int) := by omega
      have hi2 : (i : Int) ≤ (bs.length : Int) := by omega
      have hi3 : (i : Int) ≤ (c : Int) := by omega
      have hci : ¬c = i := by omega
      have hil : i ≤ bs.length := by omega
      go_wp2_with fail
      refine K1.out.mono ?_
      rintro e w2 ⟨B, cb, rfl, ⟨hB, hBn⟩, hb2⟩
      simp only [Rep.Rpt.row] at hB hBn ⊢
      have hsz := HU.out.size
      have HO2 := Lib.hid (HO.out.below hb2)
      have HS2 := Lib.hid (HS.out.later hb2)
      have HU2 := Lib.hid (HU.out.later hb2)
      have HD : Hid (0 < bl.length → ∀ b off, B = some ⟨b, off, none⟩ → some b ≠ ownB A') := Lib.hid (fun h0 b off e e2 => by have := hBn h0 b off e; have := (HO.out.block b e2.symm).2; omega)
      have HB := Lib.hid hB
      clear HO HS HU hb2 hB hBn K1
      by_cases hz : er = 0
      · subst hz
        obtain ⟨m, rfl⟩ : ∃ m : Nat, n = (m : Int) := ⟨n.toNat, by omega⟩
        have hm8 : 8 ≤ m := by have := hf4 rfl; omega
        have hR := HE2.out
        rw [if_pos rfl] at hR
        have HR := Lib.hid hR
        clear hR HE2 hf4
        have HU3 := Lib.hid (HU2.out.push (.cells #[.bool s, .int .u32 so, .int .u64 cl, .int .u32 ti, .int .u32 pa, .int .u32 oc, .slice B bl.length cb] 47))
        have HO3 := Lib.hid (HO2.out.alloc (.cells #[.bool s, .int .u32 so, .int .u64 cl, .int .u32 ti, .int .u32 pa, .int .u32 oc, .slice B bl.length cb] 47))
        have HS3 := Lib.hid (HS2.out.push (.cells #[.bool s, .int .u32 so, .int .u64 cl, .int .u32 ti, .int .u32 pa, .int .u32 oc, .slice B bl.length cb] 47))
        have HB3 := Lib.hid (HB.out.push (.cells #[.bool s, .int .u32 so, .int .u64 cl, .int .u32 ti, .int .u32 pa, .int .u32 oc, .slice B bl.length cb] 47))
        have hbs := HU3.out.size
        have hlo := HL.out
        clear HO2 HU2 HS2 HB
        go_wp2_with (at_builtin; go_loud (refine wpList_append_at rfl _ _ 50 rfl w.heap.size 47 7 56 (.agg #[.bool false, .int .u32 0, .int .u64 0, .int .u32 0, .int .u32 0, .int .u32 0, .slice none 0 0]) Try.underlying50 info_rp rfl (by decide) A' out.length c' _ rfl HO3.out [.bool s, .int .u32 so, .int .u64 cl, .int .u32 ti, .int .u32 pa, .int .u32 oc, .slice B bl.length cb] rfl (by simp [Value.oneCell']) (by rw [size_alloc1]; rfl) (by unfold maxLen; omega) (by omega) hbs ?_); intro An cn wn hown hgr hat)
        go_roundg (gk - m)
        case measure => omega
        case rel =>
          refine ⟨i + m, f, An, cn, out ++ [⟨⟨s, so, cl, ti, pa, oc, bl⟩, B, cb⟩], by omega, by omega, by go_num, by rw [List.length_append]; rfl, Lib.hid (by simp; omega), Lib.hid ?_, Lib.hid ?_, Lib.hid ((HS3.out.snoc HB3.out HD.out).grow hgr hat), Lib.hid (HU3.out.grown hgr hbs (fun g e => (HO3.out.block g e).1))⟩
          · rw [HR.out]
            simp
          · have : (out ++ [(⟨⟨s, so, cl, ti, pa, oc, bl⟩, B, cb⟩ : TR)]).length = out.length + 1 := by simp
            rw [this, List.flatMap_append]
            exact hown
      · have hR := HE2.out
        rw [if_neg hz] at hR
        have HR := Lib.hid hR
        clear hR HE2 hf4
        have hz' : (er != 0) = true := bne_iff_ne.2 hz
        go_wp2_with fail
        go_ret3
        rw [HR.out]
        exact ⟨none, 0, [], rfl, rfl, Rpts.nil, HU2.out.push _⟩
    · obtain rfl : i = bs.length := by omega
      obtain ⟨f, rfl⟩ : ∃ g, f = g + 1 := ⟨f - 1, by omega⟩
      have hR := HE.out
      unfold Rep.decAll at hR
      rw [if_pos (Nat.le_refl _)] at hR
      have HR := Lib.hid hR
      clear hR HE
      have hi1 : (bs.length : Int) ≤ (bs.length : Int) := Int.le_refl _
      go_wp2_with fail
      go_ret3
      rw [HR.out]
      exact ⟨A', c', out, rfl, rfl, ⟨HO.out.rows rfl (fun _ => rfl), fun a ha => (HS.out a ha).1⟩, HU.out⟩
set_option maxRecDepth 100000 in
set_option maxHeartbeats 3200000 in
theorem rDecodeAll_any (n : Nat) (hn : bs.length = n) (hA : IntsAt w w.heap.size .u8 A bs) (hz : Within 0 255 bs) (hl : n ≤ 100000) (hc : n ≤ c) : Calls Try.prog 25 #[.slice A n c] w (DecAllR (Rep.decAll (bs.length + 1) bs 0 []) w) := by
  subst hn
  have HA := Lib.hid hA
  have HZ := Lib.hid hz
  obtain ⟨R, hR⟩ : ∃ R, R = Rep.decAll (bs.length + 1) bs 0 [] := ⟨_, rfl⟩
  rw [← hR]
  have h0 := Lib.hid hR
  clear hA hz hR
  go_enter Try.func25, Try.ntmps25
  go_wp2_with fail
  go_loopg [5, 6] bs.length (fun gk s5 s6 wr => ∃ (i f : Nat) (A' : Option Addr) (c' : Nat) (out : List TR), gk + i = bs.length ∧ gk < f ∧ s6 = .int .i64 i ∧ s5 = .slice A' out.length c' ∧ Hid (out.length ≤ i) ∧ Hid (R = Rep.decAll f bs i (out.map TR.r)) ∧ Hid (Owns wr w.heap.size 47 7 A' out.length c' (out.flatMap TR.row)) ∧ Hid (Sep wr A' out) ∧ Hid (Bel w wr))
  case atStart => exact ⟨0, bs.length + 1, none, 0, [], rfl, by omega, rfl, rfl, Lib.hid (by simp), h0, Lib.hid Owns.nil, Lib.hid (fun _ h => by cases h), Lib.hid (Bel.refl w)⟩
  case round =>
    clear h0
    obtain ⟨i, f, A', c', out, hg, hf, rfl, rfl, HL, HE, HO, HS, HU⟩ := hrel
    by_cases hlt : i < bs.length
    · obtain ⟨f, rfl⟩ : ∃ g, f = g + 1 := ⟨f - 1, by omega⟩
      have he := HE.out
      unfold Rep.decAll at he
      rw [if_neg (by omega)] at he
      have hA0 := HA.out.below HU.out
      obtain ⟨b, off, rfl, hbB, _⟩ := HA.out (by omega)
      have hIA : IntsAt wr wr.heap.size .u8 (some ⟨b, off + i, none⟩) (bs.drop i) := by
        obtain ⟨b', off', e1, h1⟩ := hA0.drop i hlt
        injection e1 with e1
        injection e1 with e1 e2
        subst e1 e2
        exact h1.more HU.out.size
      have hzd := HZ.out.drop i
      have hfacts := Rep.dec_facts (bs.drop i) hzd
      have hlen : (bs.drop i).length = bs.length - i := List.length_drop
      have k1 := fun hm => rDecode_any (some ⟨b, off + i, none⟩) (bs.drop i) (c - i) wr hIA hzd hm (by rw [hlen]; omega)
      rw [hlen] at k1 hfacts
      generalize Rep.dec (bs.drop i) = D at *
      obtain ⟨⟨s, so, cl, ti, pa, oc, bl⟩, n, er⟩ := D
      simp only at he hfacts
      obtain ⟨hf0, hf1, hf2, hf3, hf4⟩ := hfacts
      have K1 := Lib.hid (k1 (by unfold maxLen; omega))
      have HE2 := Lib.hid he
      clear HE he k1 hA0 hIA hzd hlen
      have hi0 : (0 : Int) ≤ (i : Int) := by omega
      have hi1 : (i : Int) < (bs.length : Int) := by omega
      have hi2 : (i : Int) ≤ (bs.length : Int) := by omega
      have hi3 : (i : Int) ≤ (c : Int) := by omega
      have hci : ¬c = i := by omega
      have hil : i ≤ bs.length := by omega
      go_wp2_with fail
      refine K1.out.mono ?_
      rintro e w2 ⟨B, cb, rfl, ⟨hB, hBn⟩, hb2⟩
      simp only [Rep.Rpt.row] at hB hBn ⊢
      have hsz := HU.out.size
      have HO2 := Lib.hid (HO.out.below hb2)
      have HS2 := Lib.hid (HS.out.later hb2)
      have HU2 := Lib.hid (HU.out.later hb2)
      have HD : Hid (0 < bl.length → ∀ b off, B = some ⟨b, off, none⟩ → some b ≠ ownB A') := Lib.hid (fun h0 b off e e2 => by have := hBn h0 b off e; have := (HO.out.block b e2.symm).2; omega)
      have HB := Lib.hid hB
      clear HO HS HU hb2 hB hBn K1
      by_cases hz : er = 0
      · subst hz
        obtain ⟨m, rfl⟩ : ∃ m : Nat, n = (m : Int) := ⟨n.toNat, by omega⟩
        have hm8 : 8 ≤ m := by have := hf4 rfl; omega
        have hR := HE2.out
        rw [if_pos rfl] at hR
        have HR := Lib.hid hR
        clear hR HE2 hf4
        have HU3 := Lib.hid (HU2.out.push (.cells #[.bool s, .int .u32 so, .int .u64 cl, .int .u32 ti, .int .u32 pa, .int .u32 oc, .slice B bl.length cb] 47))
        have HO3 := Lib.hid (HO2.out.alloc (.cells #[.bool s, .int .u32 so, .int .u64 cl, .int .u32 ti, .int .u32 pa, .int .u32 oc, .slice B bl.length cb] 47))
        have HS3 := Lib.hid (HS2.out.push (.cells #[.bool s, .int .u32 so, .int .u64 cl, .int .u32 ti, .int .u32 pa, .int .u32 oc, .slice B bl.length cb] 47))
        have HB3 := Lib.hid (HB.out.push (.cells #[.bool s, .int .u32 so, .int .u64 cl, .int .u32 ti, .int .u32 pa, .int .u32 oc, .slice B bl.length cb] 47))
        have hbs := HU3.out.size
        have hlo := HL.out
        clear HO2 HU2 HS2 HB
        go_wp2_with (at_builtin; go_loud (refine wpList_append_at rfl _ _ 50 rfl w.heap.size 47 7 56 (.agg #[.bool false, .int .u32 0, .int .u64 0, .int .u32 0, .int .u32 0, .int .u32 0, .slice none 0 0]) Try.underlying50 info_rp rfl (by decide) A' out.length c' _ rfl HO3.out [.bool s, .int .u32 so, .int .u64 cl, .int .u32 ti, .int .u32 pa, .int .u32 oc, .slice B bl.length cb] rfl (by simp [Value.oneCell']) (by rw [size_alloc1]; rfl) (by unfold maxLen; omega) (by omega) hbs ?_); intro An cn wn hown hgr hat)
        go_roundg (gk - m)
        case measure => omega
        case rel =>
          refine ⟨i + m, f, An, cn, out ++ [⟨⟨s, so, cl, ti, pa, oc, bl⟩, B, cb⟩], by omega, by omega, by go_num, by rw [List.length_append]; rfl, Lib.hid (by simp; omega), Lib.hid ?_, Lib.hid ?_, Lib.hid ((HS3.out.snoc HB3.out HD.out).grow hgr hat), Lib.hid (HU3.out.grown hgr hbs (fun g e => (HO3.out.block g e).1))⟩
          · rw [HR.out]
            simp
          · have : (out ++ [(⟨⟨s, so, cl, ti, pa, oc, bl⟩, B, cb⟩ : TR)]).length = out.length + 1 := by simp
            rw [this, List.flatMap_append]
            exact hown
      · have hR := HE2.out
        rw [if_neg hz] at hR
        have HR := Lib.hid hR
        clear hR HE2 hf4
        have hz' : (er != 0) = true := bne_iff_ne.2 hz
        go_wp2_with fail
        go_ret3
        rw [HR.out]
        exact ⟨none, 0, [], rfl, rfl, Rpts.nil, HU2.out.push _⟩
    · obtain rfl : i = bs.length := by omega
      obtain ⟨f, rfl⟩ : ∃ g, f = g + 1 := ⟨f - 1, by omega⟩
      have hR := HE.out
      unfold Rep.decAll at hR
      rw [if_pos (Nat.le_refl _)] at hR
      have HR := Lib.hid hR
      clear hR HE
      have hi1 : (bs.length : Int) ≤ (bs.length : Int) := Int.le_refl _
      go_wp2_with fail
      go_ret3
      rw [HR.out]
      exact ⟨A', c', out, rfl, rfl, ⟨HO.out.rows rfl (fun _ => rfl), fun a ha => (HS.out a ha).1⟩, HU.out⟩
end
end Go.Proofs.Ythmcbmjjngolmaa
