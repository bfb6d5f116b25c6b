/- Layer 32: lives. -/
import Derived.Test.YtahbecinkciahaaGreatSs9Q
import Derived.Test.YtahbecinkciahaaGreatSbLivRQ
import Derived.Test.YtahbecinkciahaaGreatDelRefPackQ
namespace Go.Proofs.YtahbecinkciahaaGreat
open Go.RowKit
set_option linter.unusedVariables false
set_option linter.unusedSimpArgs false
attribute [local go_sem ↓] zab zac
attribute [local go_sem] zaa zad
theorem zqi {W : World} {n bc : Nat} {KA B : Option Addr} (h : Pks W n KA [⟨lvk, B, bc⟩]) : ∃ b o, KA = some ⟨b, o, none⟩ ∧ b < n ∧ W.cell? ⟨b, o, none⟩ = some (.bool true) ∧ W.cell? ⟨b, o + 1, none⟩ = some (.int .u8 0) ∧ W.cell? ⟨b, o + 2, none⟩ = some (.int .u16 0) ∧ W.cell? ⟨b, o + 3, none⟩ = some (.int .u32 0) ∧ W.cell? ⟨b, o + 4, none⟩ = some (.int .u32 7) ∧ W.cell? ⟨b, o + 5, none⟩ = some (.slice none 0 0) ∧ W.cell? ⟨b, o + 6, none⟩ = some (.bool false) ∧ W.cell? ⟨b, o + 7, none⟩ = some (.int .u16 0) ∧ W.cell? ⟨b, o + 8, none⟩ = some (.slice none 0 0) ∧ W.cell? ⟨b, o + 9, none⟩ = some (.slice B 160 bc) ∧ W.cell? ⟨b, o + 10, none⟩ = some (.int .i64 0) := by
  obtain ⟨b, o, e, hlt, hc⟩ := h.1 (by simp)
  have c := fun j v hv => hc 0 ⟨lvk, B, bc⟩ rfl j v hv
  simp only [Nat.zero_mul, Nat.add_zero] at c
  have c9 := c 9 (.slice B (Sb.flatL 206).length bc) rfl
  rw [Sb.flatL_len] at c9
  exact ⟨b, o, e, hlt, c 0 _ rfl, c 1 _ rfl, c 2 _ rfl, c 3 _ rfl, c 4 _ rfl, c 5 _ rfl, c 6 _ rfl, c 7 _ rfl, c 8 _ rfl, c9, c 10 _ rfl⟩
theorem zqj {W : World} {n : Nat} {B : Option Addr} (h : IntsAt W n .u8 B (Sb.flatL 206)) : ∃ b o, B = some ⟨b, o, none⟩ ∧ W.cell? ⟨b, o + 159, none⟩ = some (.int .u8 206) := by
  obtain ⟨b, o, e, hlt, hc⟩ := h (by rw [Sb.flatL_len]; omega)
  have c := hc 159 (by rw [Sb.flatL_len]; omega)
  have e2 : (Sb.flatL 206).getD 159 0 = 206 := by decide +kernel
  rw [e2] at c
  exact ⟨b, o, e, c⟩
theorem Sds.one {W : World} {g c : Nat} {at_ : Int} {S : Option Addr} {zs : List Int} (hb : Blk W g 86 #[.int .i64 at_, .slice S zs.length c, .slice none 0 0]) (hI : IntsAt W W.heap.size .i16 S zs) : Sds W W.heap.size (some ⟨g, 0, none⟩) [⟨⟨at_, zs, []⟩, S, c⟩] := by
  refine ⟨fun _ => ⟨g, 0, rfl, hb.lt, fun i a ha j v hv => ?_⟩, fun a ha => ?_⟩
  · obtain ⟨hi, rfl⟩ : i = 0 ∧ (⟨⟨at_, zs, []⟩, S, c⟩ : TS) = a := by
      cases i with
      | zero => exact ⟨rfl, by simpa using ha⟩
      | succ i => simp at ha
    subst hi
    have h2 : j < 3 := (List.getElem?_eq_some_iff.1 hv).1
    have := hb.at j v (by simpa [TS.row] using hv)
    simpa using this
  · obtain rfl := List.mem_singleton.1 ha
    exact hI
theorem zme (V : World) (ZA : Option Addr) (zc : Nat) (hZ : IntsAt V V.heap.size .i16 ZA (Sb.flatL 1000)) : Calls Tryz.prog 23 #[.agg (PA Sb.lv0 none 0 0), .slice ZA 160 zc] V (SendR (Sb.send0 Sb.lv0 (Sb.flatL 1000)) V) :=
  zkv (l := []) ⟨Sb.lv_wf, Sb.jb40.2.1.symm, rfl, Nat.zero_le _, Nat.le_refl _, Nat.zero_le _, Wts.nil, (fun _ h => by cases h), (fun _ h => by cases h), hZ, (Sb.flatL_in (by omega) (by omega)), (Sb.flatL_len _), Sb.lv_valid⟩ rfl rfl rfl
theorem ztw : Sb.chkT Sb.lv0 100 = 0 := by
  unfold Sb.chkT
  rw [Sb.lv_valid, if_neg (by decide), if_neg (by decide)]
theorem zsj : Sb.chkT Sb.lv1 140 = 0 := by
  unfold Sb.chkT
  rw [Sb.lv1_valid, if_neg (by decide), if_neg (by decide)]
theorem zmf (V : World) (B : Option Addr) (bc : Nat) (hI : IntsAt V V.heap.size .u8 B (Sb.flatL 206)) : Calls Tryz.prog 11 #[.agg (PA Sb.lv0 none 0 0), .int .i64 100, .agg #[.bool true, .int .u8 0, .int .u16 0, .int .u32 0, .int .u32 7, .slice none 0 0, .bool false, .int .u16 0, .slice none 0 0, .slice B 160 bc, .int .i64 0]] V (RecvR (Sb.lv1, 1, []) V) := by
  have h := zqb Sb.lv0 Sb.lv_wf none [] 0 0 (PA Sb.lv0 none 0 0) rfl V Sb.jb40.2.1.symm rfl (Nat.zero_le _) (Nat.le_refl _) (Nat.zero_le _) Wts.nil (fun _ h => by cases h) 100 true 0 0 0 7 none 0 0 false 0 none 0 0 B (Sb.flatL 206) bc 0 (by omega) (by omega) (by decide) (by omega) (by omega) (by omega) (by omega) (by rw [Sb.flatL_len]; omega) hI (by omega) ztw (fun a h => by have e : Sb.lv0.jt.q = [] := Sb.jb40.2.1; rw [e] at h; cases h) rfl ⟨true, 0, -1⟩ 0 Sb.lv_follow ⟨40, 200, 100, true, 140, 0, 0, -1, 0, 100, [⟨140, Sb.lvm⟩], 0, 0, 0⟩ [] 1 (Prod.ext Sb.lv_put.1 Sb.lv_put.2)
  rw [Sb.flatL_len] at h
  exact h
theorem zmg (V : World) (A : Option Addr) (l : List TW) (n c : Nat) (hq : l.map TW.w = Sb.lv1.jt.q) (hn : l.length = n) (hcap : n ≤ c) (hcm : c ≤ maxLen) (hA : Wts V V.heap.size A l) : Calls Tryz.prog 15 #[.agg (PA Sb.lv1 A n c), .int .i64 140] V (PlayV Sb.lv1 140 V) := by
  have hl : n ≤ 100000 := by
    have h := congrArg List.length hq
    have e : Sb.lv1.jt.q.length = 1 := rfl
    rw [e, List.length_map] at h
    omega
  have hm : ∀ a ∈ l, a.w = ⟨140, Sb.lvm⟩ := fun a ha => by
    have h : a.w ∈ l.map TW.w := List.mem_map_of_mem ha
    rw [hq] at h
    exact List.mem_singleton.1 h
  refine znn Sb.lv1 Sb.lv1_wf A l n c (PA Sb.lv1 A n c) rfl V hq hn hl hcap hcm hA (fun a ha => by rw [hm a ha]; unfold I64; decide) 140 zsj (fun a ha => ?_)
  obtain rfl := List.mem_singleton.1 ha
  refine ⟨by decide, by decide, ?_, by show (Sb.flatL 206).length ≤ 8000; rw [Sb.flatL_len]; omega⟩
  intro z hz
  obtain rfl := List.eq_of_mem_replicate hz
  decide
set_option maxRecDepth 100000 in
set_option maxHeartbeats 12800000 in
theorem zij (w : World) : Calls Tryz.prog 7 #[] w fun e w' => e = .returned (.bool true) ∧ Below w.heap.size w w' := by
  have kN := H9 fun W => zou 0 7 40 200 (by omega) (by omega) W
  unfold NewP at kN
  rw [Sb.lv_new] at kN
  dsimp only at kN
  go_enter Tryz.func7, Tryz.ntmps7
  go_wp2_with fail
  refine (zli _).mono ?_
  rintro e w1 ⟨rfl, hb1⟩
  go_wp2_with fail
  refine (kN.out _).mono ?_
  rintro e w2 ⟨rfl, hb2⟩
  have U2 := H9 (Bel.later (Bel.later (Bel.refl w) hb1) hb2)
  clear hb1 hb2
  have BZ : Blk (w2.alloc (Obj.cells #[.int .u8 0, .int .u32 0, .int .u16 0, .int .u32 0, .bool false, .int .i64 0, .int .i64 0, .int .i64 0, .bool false, .int .u8 0, .int .u8 0, .int .u32 0, .int .i64 0, .int .i64 0, .int .i64 0, .int .i64 0, .int .i64 0, .bool false, .int .i64 0, .int .i64 0, .int .i64 0, .int .i64 0, .int .i64 0, .int .i64 0, .slice none 0 0, .int .i64 0, .int .i64 0, .int .i64 0, .bool false, .int .i64 0, .int .i64 0, .int .i64 0, .bool false, .int .i64 0, .int .i64 0, .int .i64 0, .int .i64 0, .int .i64 0, .int .i64 0, .int .i64 0, .bool false, .int .u32 0, .int .u8 0, .int .i64 0, .bool false, .int .u32 0, .int .u32 0, .int .u32 0] 48)) w2.heap.size 48 (PL Sb.Pt.zero none 0 0).toArray := Blk.new _ _ _
  have hs2 := U2.out.size
  go_upto_region 2 with (first | (refine zaf rfl 48 (.tmp 1) (.tmp 16) rfl (w2.heap.size) 0 rfl 48 (PL Sb.Pt.zero none 0 0) BZ (PL Sb.lv0 none 0 0) rfl zag (show 0 + 48 ≤ 48 by decide) rfl (PL Sb.lv0 none 0 0) rfl ?_; intro WA BA OA) | fail)
  have UA := H9 (OA.bel (U2.out.push (Obj.cells #[.int .u8 0, .int .u32 0, .int .u16 0, .int .u32 0, .bool false, .int .i64 0, .int .i64 0, .int .i64 0, .bool false, .int .u8 0, .int .u8 0, .int .u32 0, .int .i64 0, .int .i64 0, .int .i64 0, .int .i64 0, .int .i64 0, .bool false, .int .i64 0, .int .i64 0, .int .i64 0, .int .i64 0, .int .i64 0, .int .i64 0, .slice none 0 0, .int .i64 0, .int .i64 0, .int .i64 0, .bool false, .int .i64 0, .int .i64 0, .int .i64 0, .bool false, .int .i64 0, .int .i64 0, .int .i64 0, .int .i64 0, .int .i64 0, .int .i64 0, .int .i64 0, .bool false, .int .u32 0, .int .u8 0, .int .i64 0, .bool false, .int .u32 0, .int .u32 0, .int .u32 0] 48)) hs2)
  have HBA := H9 BA
  obtain ⟨g1, hg1⟩ : ∃ g, g = w2.heap.size := ⟨_, rfl⟩
  rw [← hg1] at HBA ⊢
  clear BZ BA OA hg1 U2 hs2
  try simp only [Act.put]
  refine zty g1 WA HBA.out zme (fun _ _ _ _ _ h => h) ?_
  intro wx g3 KA kc B bc A2 n2 c2 u18 u19 u20 u21 u22 u23 u24 HQ HP HB
  replace UA := H9 (UA.out.later HB.out)
  replace HBA := H9 (PB.later HBA.out HB.out)
  obtain ⟨bK, oK, rfl, hlK, x0, x1, x2, x3, x4, x5, x6, x7, x8, x9, x10⟩ := zqi HP.out
  obtain ⟨bP, oP, rfl, y159⟩ := zqj (HP.out.2 _ (List.mem_singleton.2 rfl))
  have q3 := HQ.out.cell 3 _ rfl
  rw [Sb.lv_send.2] at q3
  have HI := H9 (show IntsAt wx wx.heap.size .u8 (some ⟨bP, oP, none⟩) (Sb.flatL 206) from HP.out.2 _ (List.mem_singleton.2 rfl))
  clear HP HB
  go_upto_region 5 with fail
  clear q3 y159
  refine ztz g1 bK oK kc (some ⟨bP, oP, none⟩) bc wx HBA.out x0 x1 x2 x3 x4 x5 x6 x7 x8 x9 x10 HI.out (fun V hV => zmf V _ bc hV) (fun _ _ _ _ _ h => h) ?_
  intro wy g6 SA sc A3 n3 c3 l3 u72 u73 u74 u75 u76 u77 u78 u79 u80 u81 HQ6 HQL hn3 hc3 hm3 HW HB
  replace UA := H9 (UA.out.later HB.out)
  clear x0 x1 x2 x3 x4 x5 x6 x7 x8 x9 x10 HI HB HBA HQ
  go_wp2_with (first | (refine zae rfl 48 (.tmp 6) rfl (g6) 0 rfl 48 (PL Sb.lv1 A3 n3 c3) HQ6.out 48 _ Tryz.underlying48 zag (show 0 + 48 ≤ 48 by decide) (PA Sb.lv1 A3 n3 c3) (by rfl) rfl ?_) | fail)
  refine (zmg _ A3 l3 n3 c3 HQL.out hn3 hc3 hm3 HW.out).mono ?_
  rintro e w9 ⟨A4, n4, c4, l4, SA2, sc2, m, ls, base, rfl, e1, e2, e3, e4, e5, hls, e7, hso, hb9⟩
  rw [Sb.lv_run] at hls
  obtain rfl : m = 1 := by have h1 := congrArg List.length hls; have h2 := hso.len; simp at h1; omega
  have HLS := H9 hls
  have HSD := H9 hso.sds
  replace UA := H9 (UA.out.later hb9)
  clear hls hso hb9 e1 e2 e3 e4 e5 e7 HQL HW hn3 hc3 hm3
  have BZ : Blk (w9.alloc (Obj.cells #[.int .u8 0, .int .u32 0, .int .u16 0, .int .u32 0, .bool false, .int .i64 0, .int .i64 0, .int .i64 0, .bool false, .int .u8 0, .int .u8 0, .int .u32 0, .int .i64 0, .int .i64 0, .int .i64 0, .int .i64 0, .int .i64 0, .bool false, .int .i64 0, .int .i64 0, .int .i64 0, .int .i64 0, .int .i64 0, .int .i64 0, .slice none 0 0, .int .i64 0, .int .i64 0, .int .i64 0, .bool false, .int .i64 0, .int .i64 0, .int .i64 0, .bool false, .int .i64 0, .int .i64 0, .int .i64 0, .int .i64 0, .int .i64 0, .int .i64 0, .int .i64 0, .bool false, .int .u32 0, .int .u8 0, .int .i64 0, .bool false, .int .u32 0, .int .u32 0, .int .u32 0] 48)) w9.heap.size 48 (PL Sb.Pt.zero none 0 0).toArray := Blk.new _ _ _
  have hs2 := UA.out.size
  obtain ⟨q9, hq9⟩ : ∃ q, q = (Sb.run Sb.lv1 140).1 := ⟨_, rfl⟩
  rw [← hq9]
  clear hq9
  go_upto_region 7 with (first | (refine zaf rfl 48 (.tmp 10) (.tmp 85) rfl (w9.heap.size) 0 rfl 48 (PL Sb.Pt.zero none 0 0) BZ (PL q9 A4 n4 c4) rfl zag (show 0 + 48 ≤ 48 by decide) rfl (PL q9 A4 n4 c4) rfl ?_; intro WC BC OC) | fail)
  replace UA := H9 (OC.bel (UA.out.push (Obj.cells #[.int .u8 0, .int .u32 0, .int .u16 0, .int .u32 0, .bool false, .int .i64 0, .int .i64 0, .int .i64 0, .bool false, .int .u8 0, .int .u8 0, .int .u32 0, .int .i64 0, .int .i64 0, .int .i64 0, .int .i64 0, .int .i64 0, .bool false, .int .i64 0, .int .i64 0, .int .i64 0, .int .i64 0, .int .i64 0, .int .i64 0, .slice none 0 0, .int .i64 0, .int .i64 0, .int .i64 0, .bool false, .int .i64 0, .int .i64 0, .int .i64 0, .bool false, .int .i64 0, .int .i64 0, .int .i64 0, .int .i64 0, .int .i64 0, .int .i64 0, .int .i64 0, .bool false, .int .u32 0, .int .u8 0, .int .i64 0, .bool false, .int .u32 0, .int .u32 0, .int .u32 0] 48)) hs2)
  have hszC : w9.heap.size ≤ WC.heap.size := by rw [OC.2]; simp
  replace HSD := H9 ((HSD.out.keep (w' := WC) (fun p hp => (OC.cell (show p.block ≠ w9.heap.size by omega)).trans (World.cell?_alloc_lt _ _ p hp))).more hszC)
  clear BZ BC OC hs2 hszC
  go_wp2_with fail
  refine (zgi 988 _).mono ?_
  rintro e wz ⟨FA, fc, rfl, hI, hbz⟩
  replace UA := H9 (UA.out.later hbz)
  replace HSD := H9 ((HSD.out.later hbz).push (.cells #[.int .i64 140, .slice FA 160 fc, .slice none 0 0] 86))
  have HI := H9 (hI.1.push (.cells #[.int .i64 140, .slice FA 160 fc, .slice none 0 0] 86))
  have HSB := H9 (Sds.one (at_ := 140) (S := FA) (zs := Sb.flatL 988) (c := fc) (by rw [Sb.flatL_len]; exact Blk.new wz 86 #[.int .i64 140, .slice FA 160 fc, .slice none 0 0]) HI.out)
  replace UA := H9 (UA.out.push (.cells #[.int .i64 140, .slice FA 160 fc, .slice none 0 0] 86))
  clear hI hbz HI
  go_wp2_with fail
  refine (zmq SA2 (some ⟨wz.heap.size, 0, none⟩) ls [⟨⟨140, Sb.flatL 988, []⟩, FA, fc⟩] 1 sc2 1 (by have h1 := congrArg List.length HLS.out; simpa using h1) (by omega) HLS.out (fun a ha => ?_) _ HSD.out HSB.out).mono ?_
  · have h1 : a.s ∈ ls.map TS.s := List.mem_map_of_mem ha
    rw [HLS.out] at h1
    rw [List.mem_singleton.1 h1]
    show (Sb.flatL 988).length ≤ _
    rw [Sb.flatL_len]; omega
  rintro e wv ⟨rfl, hbv⟩
  have UF := UA.out.later hbv
  go_wp2_with fail
  go_ret
  exact ⟨rfl, UF⟩
end Go.Proofs.YtahbecinkciahaaGreat
