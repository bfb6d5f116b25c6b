/- Layer 28, DeltaDivides: for every state, samples and division the law returns true. -/
import Derived.Test.YtcnijhcoifodpaaDelCodes
import Derived.Test.YtcnijhcoifodpaaDelNearPlain
import Derived.Test.YtcnijhcoifodpaaApp
namespace Go.Proofs.Ytcnijhcoifodpaa.deltaDivides
open Go.RowKit
set_option linter.unusedVariables false
theorem okB_pack (s : Int × Int) (hs : Dlt.valid s.1 s.2 = true) (zs : List Int) : Dlt.okB (Dlt.packB s zs) zs.length := by
  have h : -32768 ≤ s.1 ∧ s.1 ≤ 32767 ∧ 0 ≤ s.2 ∧ s.2 ≤ 88 := by simpa [Dlt.valid, and_assoc] using hs
  refine ⟨Dlt.packB_len s zs, ?_, ?_, Dlt.pack_tail s zs⟩
  · rw [Dlt.packB_at s zs 2 (by omega)]; exact h.2.2.2
  · rw [Dlt.packB_at s zs 3 (by omega)]; rfl
theorem pack_ok (v i : Int) (hv : Dlt.valid v i = true) (zs : List Int) (m : Nat) (hm : zs.length = m) (h : m ≤ 500) (hz : Within (-32768) 32767 zs) (r t : Int) (hR : Dlt.stAt (v, i) zs m = (r, t)) (A : Option Addr) (cap : Nat) (W : World) (hA : IntsAt W W.heap.size .i16 A zs) :
    Calls Try.prog 19 #[.agg #[.int .i64 v, .int .i64 i], .slice A m cap] W fun e w' => ∃ (A' : Option Addr) (c' : Nat), e = .returned (.tuple #[.slice A' (4 + (m + 1) / 2) c', .agg #[.int .i64 r, .int .i64 t], .int .u8 0]) ∧
      4 + (m + 1) / 2 ≤ c' ∧ IntsAt w' w'.heap.size .u8 A' (Dlt.packB (v, i) zs) ∧ Below W.heap.size W w' := by
  subst hm
  have h := Pack_full v i W A zs cap hA hz
  unfold Dlt.packR at h
  rw [if_pos hv, if_pos (by omega), hR] at h
  simp only [Dlt.packB_len] at h
  exact h
theorem IntsAt.of_own_len {w : World} {base : Nat} {e : TypeId} {k : IntKind} {A : Option Addr} {n c : Nat} {zs : List Int} (h : Owns w base e 1 A n c (zs.map (Value.int k))) : IntsAt w w.heap.size k A zs := Owns.ints h
theorem same28m (A B : Option Addr) (zs : List Int) (m : Nat) (hm : zs.length = m) (c d : Nat) (w : World) (hA : IntsAt w w.heap.size .i16 A zs) (hB : IntsAt w w.heap.size .i16 B zs) (h63 : m ≤ 140737488355328) :
    Calls Try.prog 23 #[.slice A m c, .slice B m d] w fun e w' => e = .returned (.bool true) ∧ Below w.heap.size w w' := by
  subst hm
  exact same28 A B zs c d w hA hB h63
theorem unpack_ok (v i : Int) (hv : Dlt.valid v i = true) (zs : List Int) (m : Nat) (hm : zs.length = m) (h : m ≤ 500) (r t : Int) (hR : Dlt.stAt (v, i) zs m = (r, t)) (A : Option Addr) (cap : Nat) (hcap : 4 + (m + 1) / 2 ≤ cap) (W : World) (hA : IntsAt W W.heap.size .u8 A (Dlt.packB (v, i) zs)) :
    Calls Try.prog 21 #[.slice A (4 + (m + 1) / 2) cap, .int .i64 (m : Int)] W fun e w' => ∃ (A' : Option Addr) (c' : Nat), e = .returned (.tuple #[.slice A' m c', .agg #[.int .i64 r, .int .i64 t], .int .u8 0]) ∧
      IntsAt w' w'.heap.size .i16 A' (Dlt.samp (v, i) zs) ∧ Below W.heap.size W w' := by
  subst hm
  have hl := Dlt.packB_len (v, i) zs
  have h := Unpack_any W A cap (Dlt.packB (v, i) zs) (zs.length : Int) hA (Dlt.packB_within (v, i) hv zs) (by omega) (by unfold maxLen; omega)
  unfold Dlt.unpR at h
  have hok : Dlt.okB (Dlt.packB (v, i) zs) zs.length := okB_pack (v, i) hv zs
  rw [if_neg (by omega), if_neg (by rw [Int.toNat_natCast]; omega), if_pos (by rw [Int.toNat_natCast]; exact hok), Int.toNat_natCast, Dlt.head_pack (v, i) hv, Dlt.unpackL_pack (v, i) hv, Dlt.dAt_pack _ _ _ (Nat.le_refl _), hR, hl] at h
  have hs : (Dlt.samp (v, i) zs).length = zs.length := by simp [Dlt.samp]
  simp only [hs] at h
  exact h
set_option maxRecDepth 100000 in
set_option maxHeartbeats 3200000 in
theorem main1 (w : World) (v i p q r t : Int) (A : Option Addr) (zs : List Int) (c n : Nat) (cut : Int) (hv : Dlt.valid v i = true) (hA : IntsAt w w.heap.size .i16 A zs) (hz : Within (-32768) 32767 zs) (hc : zs.length ≤ c) (hm : c ≤ maxLen) (hl : zs.length ≤ 500)
    (h0 : 0 ≤ cut) (h1 : cut ≤ 65535) (hn : cut % ((zs.length : Int) + 1) = n) (hn2 : n ≤ zs.length) (hcn : ¬c = n) (hpq : Dlt.stAt (v, i) zs n = (p, q)) (hrt : Dlt.stAt (v, i) zs zs.length = (r, t)) :
    Calls Try.prog 7 #[.agg #[.int .i64 v, .int .i64 i], .slice A zs.length c, .int .u16 cut] w fun e w' => e = .returned (.bool true) ∧ Below w.heap.size w w' := by
  have hv2 := Dlt.stAt_valid (v, i) hv zs n
  rw [hpq] at hv2
  have k0 := Lib.hid fun W => rValid_bel v i W
  rw [hv] at k0
  have k1 := Lib.hid (pack_ok v i hv zs _ rfl hl hz r t hrt)
  have htk : (zs.take n).length = n := by simp; omega
  have hdr : (zs.drop n).length = zs.length - n := by simp
  have hR2 : Dlt.stAt (v, i) (zs.take n) n = (p, q) := by rw [Dlt.stAt_take _ _ _ _ (Nat.le_refl _), hpq]
  have hR3 : Dlt.stAt (p, q) (zs.drop n) (zs.length - n) = (r, t) := by
    rw [← hpq, Dlt.stAt_drop _ _ _ _ hn2, ← hrt]; congr 1; omega
  have k2 := Lib.hid (pack_ok v i hv (zs.take n) n htk (by omega) (hz.take n) p q hR2)
  have k3 := Lib.hid (pack_ok p q hv2 (zs.drop n) (zs.length - n) hdr (by omega) (hz.drop n) r t hR3)
  have u1 := Lib.hid (unpack_ok v i hv zs _ rfl hl r t hrt)
  have u2 := Lib.hid (unpack_ok v i hv (zs.take n) n htk (by omega) p q hR2)
  have u3 := Lib.hid (unpack_ok p q hv2 (zs.drop n) (zs.length - n) hdr (by omega) r t hR3)
  have hsp := Dlt.samp_split (v, i) zs n hn2
  rw [hpq] at hsp
  have HS := Lib.hid hsp
  have HT := Lib.hid htk
  have HD := Lib.hid hdr
  have HN := Lib.hid hn
  have HCN := Lib.hid hcn
  unfold maxLen at hm
  have i0 : (0 : Int) ≤ (n : Int) := by omega
  have i1 : (n : Int) ≤ (c : Int) := by omega
  have i2 : (n : Int) ≤ (zs.length : Int) := by omega
  clear hn hv hz hv2 hR2 hR3 hpq hrt hsp htk hdr
  go_enter Try.func7, Try.ntmps7
  have U := Lib.hid (Bel.refl w)
  have IA := Lib.hid (hA)
  clear hA
  go_wp2_with fail
  replace U := Lib.hid (U.out.push (.cells #[.int .i64 (v), .int .i64 (i)] 23))
  replace IA := Lib.hid (IA.out.push (.cells #[.int .i64 (v), .int .i64 (i)] 23))
  have B0 := Lib.hid (Blk.new w 23 #[.int .i64 (v), .int .i64 (i)])
  refine (k0.out _).mono ?_
  rintro e w1 ⟨rfl, hb1⟩
  replace U := Lib.hid (U.out.later hb1)
  replace IA := Lib.hid (IA.out.later hb1)
  replace B0 := Lib.hid (B0.out.later hb1)
  clear hb1
  have c_B00 := B0.out.at 0 _ rfl
  have c_B01 := B0.out.at 1 _ rfl
  go_wp2_with fail
  clear c_B00 c_B01
  rw [HN.out]
  refine (k1.out _ _ _ IA.out).mono ?_
  rintro e w2 ⟨A1, c1, rfl, hc1, ia_, hb2⟩
  replace U := Lib.hid (U.out.later hb2)
  replace IA := Lib.hid (IA.out.later hb2)
  replace B0 := Lib.hid (B0.out.later hb2)
  clear hb2
  have Ia := Lib.hid ia_
  clear ia_
  replace U := Lib.hid (U.out.push (.cells #[.int .i64 (r), .int .i64 (t)] 23))
  replace IA := Lib.hid (IA.out.push (.cells #[.int .i64 (r), .int .i64 (t)] 23))
  replace B0 := Lib.hid (B0.out.push (.cells #[.int .i64 (r), .int .i64 (t)] 23))
  replace Ia := Lib.hid (Ia.out.push (.cells #[.int .i64 (r), .int .i64 (t)] 23))
  have B1 := Lib.hid (Blk.new w2 23 #[.int .i64 (r), .int .i64 (t)])
  go_wp2_with fail
  obtain ⟨W, hW⟩ : ∃ W, W = w2.alloc (.cells #[.int .i64 (r), .int .i64 (t)] 23) := ⟨_, rfl⟩
  rw [← hW] at IA Ia B0 B1 U ⊢
  clear hW
  have d0 := B0.out.at 0 _ rfl
  have d1 := B0.out.at 1 _ rfl
  have hU : Below W.heap.size W W := Below.refl _ _
  have hlt0 := B0.out.lt
  go_cut [11, 12, 13] (fun s11 s12 s13 wx => ∃ (A2 : Option Addr) (c2 g : Nat), s11 = .slice A2 (4 + (n + 1) / 2) c2 ∧ 4 + (n + 1) / 2 ≤ c2 ∧ s12 = .pointer (some ⟨g, 0, none⟩) ∧ s13 = .int .u8 0 ∧ IntsAt wx wx.heap.size .u8 A2 (Dlt.packB (v, i) (zs.take n)) ∧
    Blk wx g 23 #[.int .i64 p, .int .i64 q] ∧ Below W.heap.size W wx)
  case first =>
    go_region_held3 (fun w' => Below W.heap.size W w' ∧ w'.cell? ⟨w.heap.size, 0, none⟩ = some (.int .i64 v) ∧ w'.cell? ⟨w.heap.size, 1, none⟩ = some (.int .i64 i))
      (first | assumption | ((try go_split_ands); (repeat' apply And.intro) <;> first | (exact below_old' (by assumption) (by assumption)) | (exact Below.drew (by assumption)) | (exact cell_old (by assumption) (by assumption)) | (exact below_new_old (by assumption) _) | (exact cell_new_old (by assumption) _) | (exact cell_new_old (cell_old (by assumption) (by assumption)) _) | ((repeat (refine below_set_old ?_ (by exact Nat.le_refl _) _)); assumption) | ((repeat (refine cell_set_other ?_ (by simp; omega) _)); assumption)))
      (first | (go_at_call 19; refine (k2.out _ _ _ ((IA.out.take n).later (by (try go_split_ands); assumption))).mono ?_; rintro e w' ⟨A2, c2, rfl, hc2, hA2, hbel⟩; have hbw : Below W.heap.size W w' := below_old' hbel (by (try go_split_ands); assumption); obtain ⟨hcc, hff⟩ := bcell hbel))
    all_goals
      go_wp2_with fail
      go_meet
      first
        | exact ⟨A2, c2, _, rfl, hc2, rfl, rfl, hA2.push _, Blk.new _ _ _, below_new_old hbw _⟩
        | (obtain ⟨ha, hb⟩ := Blk.late2 (v0 := .int .i64 p) (v1 := .int .i64 q) hA2 (((Blk.new W 23 #[.int .i64 0, .int .i64 0]).drew).later hbel) (by simp) (by simp) (by simp)
           exact ⟨A2, c2, _, rfl, hc2, rfl, rfl, ha, hb, below_set_old (below_set_old hbw (Nat.le_refl _) _) (Nat.le_refl _) _⟩)
  case rest =>
    obtain ⟨A2, c2, g2, rfl, hc2, rfl, rfl, ib_, hB2, hbw⟩ := hcut
    replace U := Lib.hid (U.out.later hbw)
    replace IA := Lib.hid (IA.out.later hbw)
    replace Ia := Lib.hid (Ia.out.later hbw)
    replace B1 := Lib.hid (B1.out.later hbw)
    have Ib := Lib.hid ib_
    have B2 := Lib.hid hB2
    clear ib_ hB2 hbw d0 d1 hU hlt0 B0
    have d0 := B2.out.at 0 _ rfl
    have d1 := B2.out.at 1 _ rfl
    obtain ⟨W2, rfl⟩ : ∃ W2 : World, W2 = wc := ⟨_, rfl⟩
    have hU : Below W2.heap.size W2 W2 := Below.refl _ _
    have hlt0 := B2.out.lt
    go_wp2_with fail
    go_cut [14, 15, 16] (fun s14 s15 s16 wy => ∃ (A2 : Option Addr) (c2 g : Nat), s14 = .slice A2 (4 + (zs.length - n + 1) / 2) c2 ∧ 4 + (zs.length - n + 1) / 2 ≤ c2 ∧ s15 = .pointer (some ⟨g, 0, none⟩) ∧ s16 = .int .u8 0 ∧ IntsAt wy wy.heap.size .u8 A2 (Dlt.packB (p, q) (zs.drop n)) ∧
      Blk wy g 23 #[.int .i64 r, .int .i64 t] ∧ Below W2.heap.size W2 wy)
    case first =>
      go_region_held3 (fun w' => Below W2.heap.size W2 w' ∧ w'.cell? ⟨g2, 0, none⟩ = some (.int .i64 p) ∧ w'.cell? ⟨g2, 1, none⟩ = some (.int .i64 q))
        (first | assumption | ((try go_split_ands); (repeat' apply And.intro) <;> first | (exact below_old' (by assumption) (by assumption)) | (exact Below.drew (by assumption)) | (exact cell_old (by assumption) (by assumption)) | (exact below_new_old (by assumption) _) | (exact cell_new_old (by assumption) _) | (exact cell_new_old (cell_old (by assumption) (by assumption)) _) | ((repeat (refine below_set_old ?_ (by exact Nat.le_refl _) _)); assumption) | ((repeat (refine cell_set_other ?_ (by simp; omega) _)); assumption)))
        (first | (go_at_call 19; refine (k3.out _ _ _ ((IA.out.cut1 hc HCN.out).later (by (try go_split_ands); assumption))).mono ?_; rintro e w' ⟨A3, c3, rfl, hc3, hA3, hbel⟩; have hbw : Below W2.heap.size W2 w' := below_old' hbel (by (try go_split_ands); assumption); obtain ⟨hcc, hff⟩ := bcell hbel))
      all_goals
        go_wp2_with fail
        go_meet
        first
          | exact ⟨A3, c3, _, rfl, hc3, rfl, rfl, hA3.push _, Blk.new _ _ _, below_new_old hbw _⟩
          | (obtain ⟨ha, hb⟩ := Blk.late2 (v0 := .int .i64 r) (v1 := .int .i64 t) hA3 (((Blk.new W2 23 #[.int .i64 0, .int .i64 0]).drew).later hbel) (by simp) (by simp) (by simp)
             exact ⟨A3, c3, _, rfl, hc3, rfl, rfl, ha, hb, below_set_old (below_set_old hbw (Nat.le_refl _) _) (Nat.le_refl _) _⟩)
    case rest =>
      obtain ⟨A3, c3, g3, rfl, hc3, rfl, rfl, ic_, hB3, hbw⟩ := hcut
      replace U := Lib.hid (U.out.later hbw)
      replace Ia := Lib.hid (Ia.out.later hbw)
      replace Ib := Lib.hid (Ib.out.later hbw)
      replace B1 := Lib.hid (B1.out.later hbw)
      have Ic := Lib.hid ic_
      have B3 := Lib.hid hB3
      clear ic_ hB3 hbw d0 d1 hU hlt0 B2 IA
      obtain ⟨W3, rfl⟩ : ∃ W3 : World, W3 = wc := ⟨_, rfl⟩
      go_wp2_with fail
      refine (u1.out _ _ hc1 _ Ia.out).mono ?_
      rintro e w4 ⟨A4, c4, rfl, id_, hb4⟩
      replace U := Lib.hid (U.out.later hb4)
      replace Ia := Lib.hid (Ia.out.later hb4)
      replace Ib := Lib.hid (Ib.out.later hb4)
      replace Ic := Lib.hid (Ic.out.later hb4)
      replace B1 := Lib.hid (B1.out.later hb4)
      replace B3 := Lib.hid (B3.out.later hb4)
      clear hb4
      have Id := Lib.hid id_
      clear id_
      replace U := Lib.hid (U.out.push (.cells #[.int .i64 (r), .int .i64 (t)] 23))
      replace Ia := Lib.hid (Ia.out.push (.cells #[.int .i64 (r), .int .i64 (t)] 23))
      replace Ib := Lib.hid (Ib.out.push (.cells #[.int .i64 (r), .int .i64 (t)] 23))
      replace Ic := Lib.hid (Ic.out.push (.cells #[.int .i64 (r), .int .i64 (t)] 23))
      replace B1 := Lib.hid (B1.out.push (.cells #[.int .i64 (r), .int .i64 (t)] 23))
      replace B3 := Lib.hid (B3.out.push (.cells #[.int .i64 (r), .int .i64 (t)] 23))
      replace Id := Lib.hid (Id.out.push (.cells #[.int .i64 (r), .int .i64 (t)] 23))
      go_wp2_with fail
      refine (u2.out _ _ hc2 _ Ib.out).mono ?_
      rintro e w5 ⟨A5, c5, rfl, ie_, hb5⟩
      replace U := Lib.hid (U.out.later hb5)
      replace Ia := Lib.hid (Ia.out.later hb5)
      replace Ib := Lib.hid (Ib.out.later hb5)
      replace Ic := Lib.hid (Ic.out.later hb5)
      replace B1 := Lib.hid (B1.out.later hb5)
      replace B3 := Lib.hid (B3.out.later hb5)
      replace Id := Lib.hid (Id.out.later hb5)
      clear hb5
      have Ie := Lib.hid ie_
      clear ie_
      replace U := Lib.hid (U.out.push (.cells #[.int .i64 (p), .int .i64 (q)] 23))
      replace Ia := Lib.hid (Ia.out.push (.cells #[.int .i64 (p), .int .i64 (q)] 23))
      replace Ib := Lib.hid (Ib.out.push (.cells #[.int .i64 (p), .int .i64 (q)] 23))
      replace Ic := Lib.hid (Ic.out.push (.cells #[.int .i64 (p), .int .i64 (q)] 23))
      replace B1 := Lib.hid (B1.out.push (.cells #[.int .i64 (p), .int .i64 (q)] 23))
      replace B3 := Lib.hid (B3.out.push (.cells #[.int .i64 (p), .int .i64 (q)] 23))
      replace Id := Lib.hid (Id.out.push (.cells #[.int .i64 (p), .int .i64 (q)] 23))
      replace Ie := Lib.hid (Ie.out.push (.cells #[.int .i64 (p), .int .i64 (q)] 23))
      go_wp2_with fail
      have hsub : (zs.length : Int) - (n : Int) = ((zs.length - n : Nat) : Int) := by omega
      rw [hsub]
      clear hsub
      refine (u3.out _ _ hc3 _ Ic.out).mono ?_
      rintro e w6 ⟨A6, c6, rfl, if_, hb6⟩
      replace U := Lib.hid (U.out.later hb6)
      replace Ia := Lib.hid (Ia.out.later hb6)
      replace Ib := Lib.hid (Ib.out.later hb6)
      replace Ic := Lib.hid (Ic.out.later hb6)
      replace B1 := Lib.hid (B1.out.later hb6)
      replace B3 := Lib.hid (B3.out.later hb6)
      replace Id := Lib.hid (Id.out.later hb6)
      replace Ie := Lib.hid (Ie.out.later hb6)
      clear hb6
      have If := Lib.hid if_
      clear if_
      replace U := Lib.hid (U.out.push (.cells #[.int .i64 (r), .int .i64 (t)] 23))
      replace Ia := Lib.hid (Ia.out.push (.cells #[.int .i64 (r), .int .i64 (t)] 23))
      replace Ib := Lib.hid (Ib.out.push (.cells #[.int .i64 (r), .int .i64 (t)] 23))
      replace Ic := Lib.hid (Ic.out.push (.cells #[.int .i64 (r), .int .i64 (t)] 23))
      replace B1 := Lib.hid (B1.out.push (.cells #[.int .i64 (r), .int .i64 (t)] 23))
      replace B3 := Lib.hid (B3.out.push (.cells #[.int .i64 (r), .int .i64 (t)] 23))
      replace Id := Lib.hid (Id.out.push (.cells #[.int .i64 (r), .int .i64 (t)] 23))
      replace Ie := Lib.hid (Ie.out.push (.cells #[.int .i64 (r), .int .i64 (t)] 23))
      replace If := Lib.hid (If.out.push (.cells #[.int .i64 (r), .int .i64 (t)] 23))
      have c_B10 := B1.out.at 0 _ rfl
      have c_B11 := B1.out.at 1 _ rfl
      have c_B30 := B3.out.at 0 _ rfl
      have c_B31 := B3.out.at 1 _ rfl
      have hl1 : (Dlt.samp (v, i) (zs.take n)).length = n := by simp [Dlt.samp]; omega
      have hl2 : (Dlt.samp (p, q) (zs.drop n)).length = zs.length - n := by simp [Dlt.samp]
      have HL1 := Lib.hid hl1
      have HL2 := Lib.hid hl2
      clear hl1 hl2
      clear Ia Ib Ic B1 B3
      have hbase : w.heap.size ≤ (w6.alloc (.cells #[.int .i64 (r), .int .i64 (t)] 23)).heap.size := U.out.size
      go_wp2_with (first
        | (at_builtin
           refine wpList_append_ints rfl (.tmp 119) (.tmp 120) 36 rfl w.heap.size 24 2 (.int .i16 0) Try.underlying36 (by kernel_rfl) rfl none 0 0 [] rfl Owns.nil _ .i16 A5 c5 (Dlt.samp (v, i) (zs.take n)) (by rw [HL1.out]; rfl) Ie.out (by rw [HL1.out]; unfold maxLen; omega) (by rw [HL1.out]; omega) hbase n (by rw [HL1.out]; omega) ?_
           intro A7 c7 w7 hown7 hg7 hat7
           have hb7' : Below (w6.alloc (.cells #[.int .i64 (r), .int .i64 (t)] 23)).heap.size (w6.alloc (.cells #[.int .i64 (r), .int .i64 (t)] 23)) w7 := (Below.refl _ _).grown hg7 (Nat.le_refl _) (fun g e => by simp [ownB] at e))
        | (at_builtin
           refine wpList_append_ints rfl (.tmp 122) (.tmp 123) 36 rfl w.heap.size 24 2 (.int .i16 0) Try.underlying36 (by kernel_rfl) rfl A7 n c7 _ rfl hown7 _ .i16 A6 c6 (Dlt.samp (p, q) (zs.drop n)) (by rw [HL2.out]; rfl) (If.out.later hb7') (by rw [HL2.out]; unfold maxLen; omega) (by rw [HL2.out]; omega) (Nat.le_trans hbase hb7'.size) zs.length (by rw [HL2.out]; omega) ?_
           intro A8 c8 w8 hown8 hg8 hat8
           have hb8' : Below (w6.alloc (.cells #[.int .i64 (r), .int .i64 (t)] 23)).heap.size (w6.alloc (.cells #[.int .i64 (r), .int .i64 (t)] 23)) w8 := hb7'.grown hg8 hb7'.size (own_late hat7)))
      have hown9 := hown8
      rw [List.nil_append, ← List.map_append, HS.out] at hown9
      have I8 := IntsAt.of_own_len hown9
      refine (same28m A4 A8 (Dlt.samp (v, i) zs) zs.length (by simp [Dlt.samp]) c4 c8 _ (Id.out.later hb8') I8 (by omega)).mono ?_
      rintro e w9 ⟨rfl, hb9⟩
      go_wp2_with fail
      refine (lives_any _).mono ?_
      rintro e w10 ⟨rfl, hb10⟩
      go_wp2_with fail
      go_ret
      exact ⟨rfl, ((U.out.later hb8').later hb9).later hb10⟩
set_option maxRecDepth 100000 in
set_option maxHeartbeats 3200000 in
theorem main2 (w : World) (v i p q r t : Int) (A : Option Addr) (zs : List Int) (c n : Nat) (cut : Int) (hv : Dlt.valid v i = true) (hA : IntsAt w w.heap.size .i16 A zs) (hz : Within (-32768) 32767 zs) (hc : zs.length ≤ c) (hm : c ≤ maxLen) (hl : zs.length ≤ 500)
    (h0 : 0 ≤ cut) (h1 : cut ≤ 65535) (hn : cut % ((zs.length : Int) + 1) = n) (hn2 : n ≤ zs.length) (hcn : c = n) (hpq : Dlt.stAt (v, i) zs n = (p, q)) (hrt : Dlt.stAt (v, i) zs zs.length = (r, t)) :
    Calls Try.prog 7 #[.agg #[.int .i64 v, .int .i64 i], .slice A zs.length c, .int .u16 cut] w fun e w' => e = .returned (.bool true) ∧ Below w.heap.size w w' := by
  have hv2 := Dlt.stAt_valid (v, i) hv zs n
  rw [hpq] at hv2
  have k0 := Lib.hid fun W => rValid_bel v i W
  rw [hv] at k0
  have k1 := Lib.hid (pack_ok v i hv zs _ rfl hl hz r t hrt)
  have htk : (zs.take n).length = n := by simp; omega
  have hdr : (zs.drop n).length = zs.length - n := by simp
  have hR2 : Dlt.stAt (v, i) (zs.take n) n = (p, q) := by rw [Dlt.stAt_take _ _ _ _ (Nat.le_refl _), hpq]
  have hR3 : Dlt.stAt (p, q) (zs.drop n) (zs.length - n) = (r, t) := by
    rw [← hpq, Dlt.stAt_drop _ _ _ _ hn2, ← hrt]; congr 1; omega
  have k2 := Lib.hid (pack_ok v i hv (zs.take n) n htk (by omega) (hz.take n) p q hR2)
  have k3 := Lib.hid (pack_ok p q hv2 (zs.drop n) (zs.length - n) hdr (by omega) (hz.drop n) r t hR3)
  have u1 := Lib.hid (unpack_ok v i hv zs _ rfl hl r t hrt)
  have u2 := Lib.hid (unpack_ok v i hv (zs.take n) n htk (by omega) p q hR2)
  have u3 := Lib.hid (unpack_ok p q hv2 (zs.drop n) (zs.length - n) hdr (by omega) r t hR3)
  have hsp := Dlt.samp_split (v, i) zs n hn2
  rw [hpq] at hsp
  have HS := Lib.hid hsp
  have HT := Lib.hid htk
  have HD := Lib.hid hdr
  have HN := Lib.hid hn
  have HCN := Lib.hid hcn
  unfold maxLen at hm
  have i0 : (0 : Int) ≤ (n : Int) := by omega
  have i1 : (n : Int) ≤ (c : Int) := by omega
  have i2 : (n : Int) ≤ (zs.length : Int) := by omega
  clear hn hv hz hv2 hR2 hR3 hpq hrt hsp htk hdr
  go_enter Try.func7, Try.ntmps7
  have U := Lib.hid (Bel.refl w)
  have IA := Lib.hid (hA)
  clear hA
  go_wp2_with fail
  replace U := Lib.hid (U.out.push (.cells #[.int .i64 (v), .int .i64 (i)] 23))
  replace IA := Lib.hid (IA.out.push (.cells #[.int .i64 (v), .int .i64 (i)] 23))
  have B0 := Lib.hid (Blk.new w 23 #[.int .i64 (v), .int .i64 (i)])
  refine (k0.out _).mono ?_
  rintro e w1 ⟨rfl, hb1⟩
  replace U := Lib.hid (U.out.later hb1)
  replace IA := Lib.hid (IA.out.later hb1)
  replace B0 := Lib.hid (B0.out.later hb1)
  clear hb1
  have c_B00 := B0.out.at 0 _ rfl
  have c_B01 := B0.out.at 1 _ rfl
  go_wp2_with fail
  clear c_B00 c_B01
  rw [HN.out]
  refine (k1.out _ _ _ IA.out).mono ?_
  rintro e w2 ⟨A1, c1, rfl, hc1, ia_, hb2⟩
  replace U := Lib.hid (U.out.later hb2)
  replace IA := Lib.hid (IA.out.later hb2)
  replace B0 := Lib.hid (B0.out.later hb2)
  clear hb2
  have Ia := Lib.hid ia_
  clear ia_
  replace U := Lib.hid (U.out.push (.cells #[.int .i64 (r), .int .i64 (t)] 23))
  replace IA := Lib.hid (IA.out.push (.cells #[.int .i64 (r), .int .i64 (t)] 23))
  replace B0 := Lib.hid (B0.out.push (.cells #[.int .i64 (r), .int .i64 (t)] 23))
  replace Ia := Lib.hid (Ia.out.push (.cells #[.int .i64 (r), .int .i64 (t)] 23))
  have B1 := Lib.hid (Blk.new w2 23 #[.int .i64 (r), .int .i64 (t)])
  go_wp2_with fail
  obtain ⟨W, hW⟩ : ∃ W, W = w2.alloc (.cells #[.int .i64 (r), .int .i64 (t)] 23) := ⟨_, rfl⟩
  rw [← hW] at IA Ia B0 B1 U ⊢
  clear hW
  have d0 := B0.out.at 0 _ rfl
  have d1 := B0.out.at 1 _ rfl
  have hU : Below W.heap.size W W := Below.refl _ _
  have hlt0 := B0.out.lt
  go_cut [11, 12, 13] (fun s11 s12 s13 wx => ∃ (A2 : Option Addr) (c2 g : Nat), s11 = .slice A2 (4 + (n + 1) / 2) c2 ∧ 4 + (n + 1) / 2 ≤ c2 ∧ s12 = .pointer (some ⟨g, 0, none⟩) ∧ s13 = .int .u8 0 ∧ IntsAt wx wx.heap.size .u8 A2 (Dlt.packB (v, i) (zs.take n)) ∧
    Blk wx g 23 #[.int .i64 p, .int .i64 q] ∧ Below W.heap.size W wx)
  case first =>
    go_region_held3 (fun w' => Below W.heap.size W w' ∧ w'.cell? ⟨w.heap.size, 0, none⟩ = some (.int .i64 v) ∧ w'.cell? ⟨w.heap.size, 1, none⟩ = some (.int .i64 i))
      (first | assumption | ((try go_split_ands); (repeat' apply And.intro) <;> first | (exact below_old' (by assumption) (by assumption)) | (exact Below.drew (by assumption)) | (exact cell_old (by assumption) (by assumption)) | (exact below_new_old (by assumption) _) | (exact cell_new_old (by assumption) _) | (exact cell_new_old (cell_old (by assumption) (by assumption)) _) | ((repeat (refine below_set_old ?_ (by exact Nat.le_refl _) _)); assumption) | ((repeat (refine cell_set_other ?_ (by simp; omega) _)); assumption)))
      (first | (go_at_call 19; refine (k2.out _ _ _ ((IA.out.take n).later (by (try go_split_ands); assumption))).mono ?_; rintro e w' ⟨A2, c2, rfl, hc2, hA2, hbel⟩; have hbw : Below W.heap.size W w' := below_old' hbel (by (try go_split_ands); assumption); obtain ⟨hcc, hff⟩ := bcell hbel))
    all_goals
      go_wp2_with fail
      go_meet
      first
        | exact ⟨A2, c2, _, rfl, hc2, rfl, rfl, hA2.push _, Blk.new _ _ _, below_new_old hbw _⟩
        | (obtain ⟨ha, hb⟩ := Blk.late2 (v0 := .int .i64 p) (v1 := .int .i64 q) hA2 (((Blk.new W 23 #[.int .i64 0, .int .i64 0]).drew).later hbel) (by simp) (by simp) (by simp)
           exact ⟨A2, c2, _, rfl, hc2, rfl, rfl, ha, hb, below_set_old (below_set_old hbw (Nat.le_refl _) _) (Nat.le_refl _) _⟩)
  case rest =>
    obtain ⟨A2, c2, g2, rfl, hc2, rfl, rfl, ib_, hB2, hbw⟩ := hcut
    replace U := Lib.hid (U.out.later hbw)
    replace IA := Lib.hid (IA.out.later hbw)
    replace Ia := Lib.hid (Ia.out.later hbw)
    replace B1 := Lib.hid (B1.out.later hbw)
    have Ib := Lib.hid ib_
    have B2 := Lib.hid hB2
    clear ib_ hB2 hbw d0 d1 hU hlt0 B0
    have d0 := B2.out.at 0 _ rfl
    have d1 := B2.out.at 1 _ rfl
    obtain ⟨W2, rfl⟩ : ∃ W2 : World, W2 = wc := ⟨_, rfl⟩
    have hU : Below W2.heap.size W2 W2 := Below.refl _ _
    have hlt0 := B2.out.lt
    go_wp2_with fail
    go_cut [14, 15, 16] (fun s14 s15 s16 wy => ∃ (A2 : Option Addr) (c2 g : Nat), s14 = .slice A2 (4 + (zs.length - n + 1) / 2) c2 ∧ 4 + (zs.length - n + 1) / 2 ≤ c2 ∧ s15 = .pointer (some ⟨g, 0, none⟩) ∧ s16 = .int .u8 0 ∧ IntsAt wy wy.heap.size .u8 A2 (Dlt.packB (p, q) (zs.drop n)) ∧
      Blk wy g 23 #[.int .i64 r, .int .i64 t] ∧ Below W2.heap.size W2 wy)
    case first =>
      go_region_held3 (fun w' => Below W2.heap.size W2 w' ∧ w'.cell? ⟨g2, 0, none⟩ = some (.int .i64 p) ∧ w'.cell? ⟨g2, 1, none⟩ = some (.int .i64 q))
        (first | assumption | ((try go_split_ands); (repeat' apply And.intro) <;> first | (exact below_old' (by assumption) (by assumption)) | (exact Below.drew (by assumption)) | (exact cell_old (by assumption) (by assumption)) | (exact below_new_old (by assumption) _) | (exact cell_new_old (by assumption) _) | (exact cell_new_old (cell_old (by assumption) (by assumption)) _) | ((repeat (refine below_set_old ?_ (by exact Nat.le_refl _) _)); assumption) | ((repeat (refine cell_set_other ?_ (by simp; omega) _)); assumption)))
        (first | (go_at_call 19; refine (k3.out _ _ _ ((IA.out.cut2 hc HCN.out).later (by (try go_split_ands); assumption))).mono ?_; rintro e w' ⟨A3, c3, rfl, hc3, hA3, hbel⟩; have hbw : Below W2.heap.size W2 w' := below_old' hbel (by (try go_split_ands); assumption); obtain ⟨hcc, hff⟩ := bcell hbel))
      all_goals
        go_wp2_with fail
        go_meet
        first
          | exact ⟨A3, c3, _, rfl, hc3, rfl, rfl, hA3.push _, Blk.new _ _ _, below_new_old hbw _⟩
          | (obtain ⟨ha, hb⟩ := Blk.late2 (v0 := .int .i64 r) (v1 := .int .i64 t) hA3 (((Blk.new W2 23 #[.int .i64 0, .int .i64 0]).drew).later hbel) (by simp) (by simp) (by simp)
             exact ⟨A3, c3, _, rfl, hc3, rfl, rfl, ha, hb, below_set_old (below_set_old hbw (Nat.le_refl _) _) (Nat.le_refl _) _⟩)
    case rest =>
      obtain ⟨A3, c3, g3, rfl, hc3, rfl, rfl, ic_, hB3, hbw⟩ := hcut
      replace U := Lib.hid (U.out.later hbw)
      replace Ia := Lib.hid (Ia.out.later hbw)
      replace Ib := Lib.hid (Ib.out.later hbw)
      replace B1 := Lib.hid (B1.out.later hbw)
      have Ic := Lib.hid ic_
      have B3 := Lib.hid hB3
      clear ic_ hB3 hbw d0 d1 hU hlt0 B2 IA
      obtain ⟨W3, rfl⟩ : ∃ W3 : World, W3 = wc := ⟨_, rfl⟩
      go_wp2_with fail
      refine (u1.out _ _ hc1 _ Ia.out).mono ?_
      rintro e w4 ⟨A4, c4, rfl, id_, hb4⟩
      replace U := Lib.hid (U.out.later hb4)
      replace Ia := Lib.hid (Ia.out.later hb4)
      replace Ib := Lib.hid (Ib.out.later hb4)
      replace Ic := Lib.hid (Ic.out.later hb4)
      replace B1 := Lib.hid (B1.out.later hb4)
      replace B3 := Lib.hid (B3.out.later hb4)
      clear hb4
      have Id := Lib.hid id_
      clear id_
      replace U := Lib.hid (U.out.push (.cells #[.int .i64 (r), .int .i64 (t)] 23))
      replace Ia := Lib.hid (Ia.out.push (.cells #[.int .i64 (r), .int .i64 (t)] 23))
      replace Ib := Lib.hid (Ib.out.push (.cells #[.int .i64 (r), .int .i64 (t)] 23))
      replace Ic := Lib.hid (Ic.out.push (.cells #[.int .i64 (r), .int .i64 (t)] 23))
      replace B1 := Lib.hid (B1.out.push (.cells #[.int .i64 (r), .int .i64 (t)] 23))
      replace B3 := Lib.hid (B3.out.push (.cells #[.int .i64 (r), .int .i64 (t)] 23))
      replace Id := Lib.hid (Id.out.push (.cells #[.int .i64 (r), .int .i64 (t)] 23))
      go_wp2_with fail
      refine (u2.out _ _ hc2 _ Ib.out).mono ?_
      rintro e w5 ⟨A5, c5, rfl, ie_, hb5⟩
      replace U := Lib.hid (U.out.later hb5)
      replace Ia := Lib.hid (Ia.out.later hb5)
      replace Ib := Lib.hid (Ib.out.later hb5)
      replace Ic := Lib.hid (Ic.out.later hb5)
      replace B1 := Lib.hid (B1.out.later hb5)
      replace B3 := Lib.hid (B3.out.later hb5)
      replace Id := Lib.hid (Id.out.later hb5)
      clear hb5
      have Ie := Lib.hid ie_
      clear ie_
      replace U := Lib.hid (U.out.push (.cells #[.int .i64 (p), .int .i64 (q)] 23))
      replace Ia := Lib.hid (Ia.out.push (.cells #[.int .i64 (p), .int .i64 (q)] 23))
      replace Ib := Lib.hid (Ib.out.push (.cells #[.int .i64 (p), .int .i64 (q)] 23))
      replace Ic := Lib.hid (Ic.out.push (.cells #[.int .i64 (p), .int .i64 (q)] 23))
      replace B1 := Lib.hid (B1.out.push (.cells #[.int .i64 (p), .int .i64 (q)] 23))
      replace B3 := Lib.hid (B3.out.push (.cells #[.int .i64 (p), .int .i64 (q)] 23))
      replace Id := Lib.hid (Id.out.push (.cells #[.int .i64 (p), .int .i64 (q)] 23))
      replace Ie := Lib.hid (Ie.out.push (.cells #[.int .i64 (p), .int .i64 (q)] 23))
      go_wp2_with fail
      have hsub : (zs.length : Int) - (n : Int) = ((zs.length - n : Nat) : Int) := by omega
      rw [hsub]
      clear hsub
      refine (u3.out _ _ hc3 _ Ic.out).mono ?_
      rintro e w6 ⟨A6, c6, rfl, if_, hb6⟩
      replace U := Lib.hid (U.out.later hb6)
      replace Ia := Lib.hid (Ia.out.later hb6)
      replace Ib := Lib.hid (Ib.out.later hb6)
      replace Ic := Lib.hid (Ic.out.later hb6)
      replace B1 := Lib.hid (B1.out.later hb6)
      replace B3 := Lib.hid (B3.out.later hb6)
      replace Id := Lib.hid (Id.out.later hb6)
      replace Ie := Lib.hid (Ie.out.later hb6)
      clear hb6
      have If := Lib.hid if_
      clear if_
      replace U := Lib.hid (U.out.push (.cells #[.int .i64 (r), .int .i64 (t)] 23))
      replace Ia := Lib.hid (Ia.out.push (.cells #[.int .i64 (r), .int .i64 (t)] 23))
      replace Ib := Lib.hid (Ib.out.push (.cells #[.int .i64 (r), .int .i64 (t)] 23))
      replace Ic := Lib.hid (Ic.out.push (.cells #[.int .i64 (r), .int .i64 (t)] 23))
      replace B1 := Lib.hid (B1.out.push (.cells #[.int .i64 (r), .int .i64 (t)] 23))
      replace B3 := Lib.hid (B3.out.push (.cells #[.int .i64 (r), .int .i64 (t)] 23))
      replace Id := Lib.hid (Id.out.push (.cells #[.int .i64 (r), .int .i64 (t)] 23))
      replace Ie := Lib.hid (Ie.out.push (.cells #[.int .i64 (r), .int .i64 (t)] 23))
      replace If := Lib.hid (If.out.push (.cells #[.int .i64 (r), .int .i64 (t)] 23))
      have c_B10 := B1.out.at 0 _ rfl
      have c_B11 := B1.out.at 1 _ rfl
      have c_B30 := B3.out.at 0 _ rfl
      have c_B31 := B3.out.at 1 _ rfl
      have hl1 : (Dlt.samp (v, i) (zs.take n)).length = n := by simp [Dlt.samp]; omega
      have hl2 : (Dlt.samp (p, q) (zs.drop n)).length = zs.length - n := by simp [Dlt.samp]
      have HL1 := Lib.hid hl1
      have HL2 := Lib.hid hl2
      clear hl1 hl2
      clear Ia Ib Ic B1 B3
      have hbase : w.heap.size ≤ (w6.alloc (.cells #[.int .i64 (r), .int .i64 (t)] 23)).heap.size := U.out.size
      go_wp2_with (first
        | (at_builtin
           refine wpList_append_ints rfl (.tmp 119) (.tmp 120) 36 rfl w.heap.size 24 2 (.int .i16 0) Try.underlying36 (by kernel_rfl) rfl none 0 0 [] rfl Owns.nil _ .i16 A5 c5 (Dlt.samp (v, i) (zs.take n)) (by rw [HL1.out]; rfl) Ie.out (by rw [HL1.out]; unfold maxLen; omega) (by rw [HL1.out]; omega) hbase n (by rw [HL1.out]; omega) ?_
           intro A7 c7 w7 hown7 hg7 hat7
           have hb7' : Below (w6.alloc (.cells #[.int .i64 (r), .int .i64 (t)] 23)).heap.size (w6.alloc (.cells #[.int .i64 (r), .int .i64 (t)] 23)) w7 := (Below.refl _ _).grown hg7 (Nat.le_refl _) (fun g e => by simp [ownB] at e))
        | (at_builtin
           refine wpList_append_ints rfl (.tmp 122) (.tmp 123) 36 rfl w.heap.size 24 2 (.int .i16 0) Try.underlying36 (by kernel_rfl) rfl A7 n c7 _ rfl hown7 _ .i16 A6 c6 (Dlt.samp (p, q) (zs.drop n)) (by rw [HL2.out]; rfl) (If.out.later hb7') (by rw [HL2.out]; unfold maxLen; omega) (by rw [HL2.out]; omega) (Nat.le_trans hbase hb7'.size) zs.length (by rw [HL2.out]; omega) ?_
           intro A8 c8 w8 hown8 hg8 hat8
           have hb8' : Below (w6.alloc (.cells #[.int .i64 (r), .int .i64 (t)] 23)).heap.size (w6.alloc (.cells #[.int .i64 (r), .int .i64 (t)] 23)) w8 := hb7'.grown hg8 hb7'.size (own_late hat7)))
      have hown9 := hown8
      rw [List.nil_append, ← List.map_append, HS.out] at hown9
      have I8 := IntsAt.of_own_len hown9
      refine (same28m A4 A8 (Dlt.samp (v, i) zs) zs.length (by simp [Dlt.samp]) c4 c8 _ (Id.out.later hb8') I8 (by omega)).mono ?_
      rintro e w9 ⟨rfl, hb9⟩
      go_wp2_with fail
      refine (lives_any _).mono ?_
      rintro e w10 ⟨rfl, hb10⟩
      go_wp2_with fail
      go_ret
      exact ⟨rfl, ((U.out.later hb8').later hb9).later hb10⟩
set_option maxHeartbeats 400000 in
theorem long (w : World) (v i : Int) (A : Option Addr) (k c : Nat) (cut : Int) (h : 500 < (k : Int)) :
    Calls Try.prog 7 #[.agg #[.int .i64 v, .int .i64 i], .slice A k c, .int .u16 cut] w fun e w' => e = .returned (.bool true) ∧ Below w.heap.size w w' := by
  go_enter Try.func7, Try.ntmps7
  go_wp2_with fail
  refine (lives_any _).mono ?_
  rintro e w1 ⟨rfl, hb⟩
  go_wp2_with fail
  go_ret
  exact ⟨rfl, ((Bel.refl w).push _).later hb⟩
set_option maxHeartbeats 400000 in
theorem bad (w : World) (v i : Int) (A : Option Addr) (k c : Nat) (cut : Int) (h : decide (500 < (k : Int)) = false) (hv : Dlt.valid v i = false) :
    Calls Try.prog 7 #[.agg #[.int .i64 v, .int .i64 i], .slice A k c, .int .u16 cut] w fun e w' => e = .returned (.bool true) ∧ Below w.heap.size w w' := by
  have k0 := Lib.hid fun W => rValid_bel v i W
  rw [hv] at k0
  clear hv
  go_enter Try.func7, Try.ntmps7
  go_wp2_with fail
  refine (k0.out _).mono ?_
  rintro e w1 ⟨rfl, hb⟩
  go_wp2_with fail
  refine (lives_any _).mono ?_
  rintro e w2 ⟨rfl, hb2⟩
  go_wp2_with fail
  go_ret
  exact ⟨rfl, Bel.later (((Bel.refl w).push _).later hb) hb2⟩
theorem walk (w : World) (v i : Int) (A : Option Addr) (zs : List Int) (c : Nat) (hl1 : zs.length ≤ c) (hm1 : c ≤ maxLen) (hA : IntsAt w w.heap.size .i16 A zs) (w1 : ∀ z ∈ zs, (Lit.int .i16 z).wf = true) (cut : Int) (w2 : (Lit.int .u16 cut).wf = true) :
    Calls Try.prog 7 #[.agg #[.int .i64 v, .int .i64 i], .slice A zs.length c, .int .u16 cut] w fun e w' => e = .returned (.bool true) ∧ Below w.heap.size w w' := by
  have hx : 0 ≤ cut ∧ cut ≤ 65535 := by simpa [Lit.wf, IntKind.min, IntKind.max, IntKind.signed, IntKind.bits] using w2
  by_cases h1 : 500 < (zs.length : Int)
  · exact long w v i A _ c cut h1
  · by_cases hv : Dlt.valid v i = true
    · have hn0 : 0 ≤ cut % ((zs.length : Int) + 1) := Int.emod_nonneg _ (by omega)
      have hn1 : cut % ((zs.length : Int) + 1) < (zs.length : Int) + 1 := Int.emod_lt_of_pos _ (by omega)
      obtain ⟨n, hn⟩ := Int.eq_ofNat_of_zero_le hn0
      rw [hn] at hn1
      by_cases hcn : c = n
      · exact main2 w v i _ _ _ _ A zs c n cut hv hA (within_i16 w1) hl1 hm1 (by omega) hx.1 hx.2 hn (by omega) hcn rfl rfl
      · exact main1 w v i _ _ _ _ A zs c n cut hv hA (within_i16 w1) hl1 hm1 (by omega) hx.1 hx.2 hn (by omega) hcn rfl rfl
    · exact bad w v i A _ c cut (by simpa using h1) (by simpa using hv)
end Go.Proofs.Ytcnijhcoifodpaa.deltaDivides
