/- Layer 32: the law StreamKnown. -/
import Derived.Test.YtahbecinkciahaaSbKnPQ
import Derived.Test.YtahbecinkciahaaSbLives
import Derived.BigQuiet
namespace Go.Proofs.Ytahbecinkciahaa
open Go.RowKit
set_option linter.unusedVariables false
set_option linter.unusedSimpArgs false
attribute [local go_sem ↓] run_min_plain run_max_plain
attribute [local go_sem] setCell_drewN alloc_drewN
theorem kn_new13 : Sb.new 13 7 40 200 = (Sb.Pt.zero, 15) := by unfold Sb.new; rw [if_pos (by decide)]
theorem kn_ka (V : World) (p : Sb.Pt) (i : Nat) (h : Sb.KnI p i) (A : Option Addr) (c : Nat) (hcm : c ≤ maxLen) (ZA : Option Addr) (zc : Nat) (v : Int) (v0 : -32768 ≤ v) (v1 : v ≤ 32767) (hZ : IntsAt V V.heap.size .i16 ZA (Sb.flatL v)) : Calls Try.prog 10 #[.agg (PA p A 0 c), .slice ZA 160 zc] V (SendR (Sb.send0 p (Sb.flatL v)) V) :=
  kn_send p i h A c hcm V ZA (Sb.flatL v) zc hZ (Sb.flatL_in v0 v1) (Sb.flatL_len v)
theorem kn_cells {W : World} {n bc : Nat} {KA B : Option Addr} {k : Sb.Pkt} (h : Pks W n KA [⟨k, B, bc⟩]) : ∃ b o, KA = some ⟨b, o, none⟩ ∧ b < n ∧ W.cell? ⟨b, o + 1, none⟩ = some (.int .u8 k.ty) ∧ W.cell? ⟨b, o + 9, none⟩ = some (.slice B k.pl.length bc) := by
  obtain ⟨b, o, e, hlt, hc⟩ := h.1 (by simp)
  have c := fun j v hv => hc 0 ⟨k, B, bc⟩ rfl j v hv
  simp only [Nat.zero_mul, Nat.add_zero] at c
  exact ⟨b, o, e, hlt, c 1 _ rfl, c 9 _ rfl⟩
theorem kn_pl0 {W : World} {n : Nat} {B : Option Addr} (h : IntsAt W n .u8 B (Sb.flatL 255)) : ∃ b o, B = some ⟨b, o, none⟩ ∧ W.cell? ⟨b, o, none⟩ = some (.int .u8 255) := by
  obtain ⟨b, o, e, hlt, hc⟩ := h (by rw [Sb.flatL_len]; omega)
  have c := hc 0 (by rw [Sb.flatL_len]; omega)
  have e2 : (Sb.flatL 255).getD 0 0 = 255 := by decide +kernel
  rw [e2] at c
  exact ⟨b, o, e, c⟩
theorem below_dn (w : World) (n : Nat) : Below w.heap.size w (w.drewN n) := ⟨rfl, rfl, rfl, Nat.le_refl _, fun _ _ => rfl⟩
theorem one_of {ks : List TK} {k : Sb.Pkt} (h : ks.map TK.k = [k]) : ∃ B c, ks = [⟨k, B, c⟩] := by
  obtain ⟨a, rfl⟩ : ∃ a, ks = [a] := List.length_eq_one_iff.1 (by have hl := congrArg List.length h; simpa using hl)
  obtain ⟨k9, B, c⟩ := a
  obtain rfl : k9 = k := by simpa using h
  exact ⟨B, c, rfl⟩
set_option maxRecDepth 100000 in
set_option maxHeartbeats 12800000 in
theorem kn_walk (w : World) : Calls Try.prog 5 #[] w fun e w' => e = .returned (.bool true) ∧ Below w.heap.size w w' := by
  have kN := Lib.hid fun W => New_any 13 7 40 200 (by omega) (by omega) W
  unfold NewP at kN
  rw [kn_new13] at kN
  dsimp only at kN
  have kN0 := Lib.hid fun W => New_any 0 7 40 200 (by omega) (by omega) W
  unfold NewP at kN0
  rw [Sb.lv_new] at kN0
  dsimp only at kN0
  obtain ⟨h1, h2, h3, h4, h5⟩ := Sb.KnI.start.loud
  have kS1 := Lib.hid fun (V : World) (ZA : Option Addr) (zc : Nat) hZ => kn_ka V Sb.lv0 0 Sb.KnI.start none 0 (Nat.zero_le _) ZA zc 1000 (by omega) (by omega) hZ
  rw [show Sb.send0 Sb.lv0 (Sb.flatL 1000) = ((Sb.send0 Sb.lv0 (Sb.flatL 1000)).1, [⟨Sb.lv0.mrk, 0, Sb.lv0.seq, Sb.lv0.time, Sb.lv0.src, Sb.flatL 206⟩]) from Prod.ext rfl h2] at kS1
  try dsimp only at kS1
  generalize (Sb.send0 Sb.lv0 (Sb.flatL 1000)).1 = q1 at *
  generalize (⟨Sb.lv0.mrk, 0, Sb.lv0.seq, Sb.lv0.time, Sb.lv0.src, Sb.flatL 206⟩ : Sb.Pkt) = k1 at *
  have HJ1 := Lib.hid h1.q
  obtain ⟨j1, j2, _, _, _⟩ := h1.loud
  have kS2 := Lib.hid fun (A : Option Addr) (c : Nat) (hcm : c ≤ maxLen) (V : World) (ZA : Option Addr) (zc : Nat) hZ => kn_ka V q1 0 h1 A c hcm ZA zc 1000 (by omega) (by omega) hZ
  rw [show Sb.send0 q1 (Sb.flatL 1000) = ((Sb.send0 q1 (Sb.flatL 1000)).1, [⟨q1.mrk, 0, q1.seq, q1.time, q1.src, Sb.flatL 206⟩]) from Prod.ext rfl j2] at kS2
  try dsimp only at kS2
  generalize (Sb.send0 q1 (Sb.flatL 1000)).1 = q2 at *
  rw [h3, h4, h5, show (Sb.lv0.seq + 1) % 65536 = 1 from by decide, show (Sb.lv0.time + 160) % 4294967296 = 160 from by decide] at kS2
  have HJ2 := Lib.hid j1
  clear h1 h2 h3 h4 h5 j1 j2
  have kT1 := Lib.hid fun (A : Option Addr) (W : World) (h : IntsAt W W.heap.size .u8 A [206, 127]) => tran_any 0 8 (by omega) (by omega) (by omega) (by omega) A [206, 127] 2 0 0 W h (show ∀ z ∈ [206, 127], (0 : Int) ≤ z ∧ z ≤ 255 from by decide) (by decide) (by decide)
  rw [kn_tr1] at kT1
  have kT2 := Lib.hid fun (A : Option Addr) (W : World) (h : IntsAt W W.heap.size .u8 A [1]) => tran_any 8 13 (by omega) (by omega) (by omega) (by omega) A [1] 1 0 0 W h (show ∀ z ∈ [1], (0 : Int) ≤ z ∧ z ≤ 255 from by decide) (by decide) (by decide)
  rw [kn_tr2] at kT2
  go_enter Try.func5, Try.ntmps5
  go_wp2_with fail
  refine (buffer_any _).mono ?_
  rintro e w1 ⟨rfl, hb1⟩
  go_wp2_with fail
  refine (kN.out _).mono ?_
  rintro e w2 ⟨rfl, hb2⟩
  have U2 := Lib.hid (Bel.later (Bel.later (Bel.refl w) hb1) hb2)
  clear hb1 hb2
  have BZ : Blk (w2.alloc (Obj.cells #[.int .u8 0, .int .u32 0, .int .u16 0, .int .u32 0, .bool false, .int .i64 0, .int .i64 0, .int .i64 0, .bool false, .int .u8 0, .int .u8 0, .int .u32 0, .int .i64 0, .int .i64 0, .int .i64 0, .int .i64 0, .int .i64 0, .bool false, .int .i64 0, .int .i64 0, .int .i64 0, .int .i64 0, .int .i64 0, .int .i64 0, .slice none 0 0, .int .i64 0, .int .i64 0, .int .i64 0, .bool false, .int .i64 0, .int .i64 0, .int .i64 0, .bool false, .int .i64 0, .int .i64 0, .int .i64 0, .int .i64 0, .int .i64 0, .int .i64 0, .int .i64 0, .bool false, .int .u32 0, .int .u8 0, .int .i64 0, .bool false, .int .u32 0, .int .u32 0, .int .u32 0] 43)) w2.heap.size 43 (PL Sb.Pt.zero none 0 0).toArray := Blk.new _ _ _
  have hs2 := U2.out.size
  go_upto_region 2 with (first | (refine wpList_store_part rfl 43 (.tmp 1) (.tmp 20) rfl (w2.heap.size) 0 rfl 43 (PL Sb.Pt.zero none 0 0) BZ (PL Sb.Pt.zero none 0 0) rfl info_port (show 0 + 48 ≤ 48 by decide) rfl (PL Sb.Pt.zero none 0 0) rfl ?_; intro WA BA OA) | fail)
  have UA := Lib.hid (OA.bel (U2.out.push (Obj.cells #[.int .u8 0, .int .u32 0, .int .u16 0, .int .u32 0, .bool false, .int .i64 0, .int .i64 0, .int .i64 0, .bool false, .int .u8 0, .int .u8 0, .int .u32 0, .int .i64 0, .int .i64 0, .int .i64 0, .int .i64 0, .int .i64 0, .bool false, .int .i64 0, .int .i64 0, .int .i64 0, .int .i64 0, .int .i64 0, .int .i64 0, .slice none 0 0, .int .i64 0, .int .i64 0, .int .i64 0, .bool false, .int .i64 0, .int .i64 0, .int .i64 0, .bool false, .int .i64 0, .int .i64 0, .int .i64 0, .int .i64 0, .int .i64 0, .int .i64 0, .int .i64 0, .bool false, .int .u32 0, .int .u8 0, .int .i64 0, .bool false, .int .u32 0, .int .u32 0, .int .u32 0] 43)) hs2)
  clear BZ BA OA U2 hs2
  go_wp2_with fail
  refine (buffer_any _).mono ?_
  rintro e w3 ⟨rfl, hb1⟩
  go_wp2_with fail
  refine (kN0.out _).mono ?_
  rintro e w4 ⟨rfl, hb2⟩
  replace UA := Lib.hid (Bel.later (UA.out.later hb1) hb2)
  clear hb1 hb2
  have BZ : Blk (w4.alloc (Obj.cells #[.int .u8 0, .int .u32 0, .int .u16 0, .int .u32 0, .bool false, .int .i64 0, .int .i64 0, .int .i64 0, .bool false, .int .u8 0, .int .u8 0, .int .u32 0, .int .i64 0, .int .i64 0, .int .i64 0, .int .i64 0, .int .i64 0, .bool false, .int .i64 0, .int .i64 0, .int .i64 0, .int .i64 0, .int .i64 0, .int .i64 0, .slice none 0 0, .int .i64 0, .int .i64 0, .int .i64 0, .bool false, .int .i64 0, .int .i64 0, .int .i64 0, .bool false, .int .i64 0, .int .i64 0, .int .i64 0, .int .i64 0, .int .i64 0, .int .i64 0, .int .i64 0, .bool false, .int .u32 0, .int .u8 0, .int .i64 0, .bool false, .int .u32 0, .int .u32 0, .int .u32 0] 43)) w4.heap.size 43 (PL Sb.Pt.zero none 0 0).toArray := Blk.new _ _ _
  have hs2 := UA.out.size
  go_upto_region 3 with (first | (refine wpList_store_part rfl 43 (.tmp 3) (.tmp 25) rfl (w4.heap.size) 0 rfl 43 (PL Sb.Pt.zero none 0 0) BZ (PL Sb.lv0 none 0 0) rfl info_port (show 0 + 48 ≤ 48 by decide) rfl (PL Sb.lv0 none 0 0) rfl ?_; intro WC BC OC) | fail)
  replace UA := Lib.hid (OC.bel (UA.out.push (Obj.cells #[.int .u8 0, .int .u32 0, .int .u16 0, .int .u32 0, .bool false, .int .i64 0, .int .i64 0, .int .i64 0, .bool false, .int .u8 0, .int .u8 0, .int .u32 0, .int .i64 0, .int .i64 0, .int .i64 0, .int .i64 0, .int .i64 0, .bool false, .int .i64 0, .int .i64 0, .int .i64 0, .int .i64 0, .int .i64 0, .int .i64 0, .slice none 0 0, .int .i64 0, .int .i64 0, .int .i64 0, .bool false, .int .i64 0, .int .i64 0, .int .i64 0, .bool false, .int .i64 0, .int .i64 0, .int .i64 0, .int .i64 0, .int .i64 0, .int .i64 0, .int .i64 0, .bool false, .int .u32 0, .int .u8 0, .int .i64 0, .bool false, .int .u32 0, .int .u32 0, .int .u32 0] 43)) hs2)
  have HB := Lib.hid (show PB WC w4.heap.size Sb.lv0 none 0 0 from BC)
  obtain ⟨g, hg⟩ : ∃ g, g = w4.heap.size := ⟨_, rfl⟩
  have hwg : w.heap.size ≤ g := by omega
  rw [← hg] at HB ⊢
  clear BZ BC OC hg hs2
  try simp only [Act.put]
  refine kn3_wp w g Sb.lv0 q1 k1 none 0 WC UA.out hwg HB.out HJ1.out kS1.out ?_ ?_
  · intro _ _ _ _ _ h; exact h
  intro wx A1 c1 u27 u28 u29 u30 u31 u32 u33 HB1 hc1 UX
  clear HB UA
  go_upto_region 4 with fail
  refine kn4_wp w g q1 q2 ⟨false, 0, 1, 160, q1.src, Sb.flatL 206⟩ A1 c1 wx UX.out hwg HB1.out HJ2.out.q (fun V ZA zc hZ => kS2.out A1 c1 hc1 V ZA zc hZ) ?_ ?_
  · intro _ _ _ _ _ h; exact h
  intro wy A2 c2 KA kc B bc u34 u35 u36 u37 u38 u39 u40 HB2 hc2 HP UY
  obtain ⟨bK, oK, rfl, hlK, hcK⟩ := HP.out.1 (by simp)
  have x0 : wy.cell? ⟨bK, oK, none⟩ = some (.bool false) := by have := hcK 0 _ rfl 0 _ rfl; simpa using this
  have x2 : wy.cell? ⟨bK, oK + 2, none⟩ = some (.int .u16 1) := by have := hcK 0 _ rfl 2 _ rfl; simpa using this
  have x3 : wy.cell? ⟨bK, oK + 3, none⟩ = some (.int .u32 160) := by have := hcK 0 _ rfl 3 _ rfl; simpa using this
  clear hcK HP HB1 UX
  go_upto_region 7 with fail
  clear x0 x2 x3
  go_wp2_with fail
  go_loopg [7] 11 (fun gk s7 wr => ∃ (k : Nat) (p : Sb.Pt) (A' : Option Addr) (c' : Nat) (i : Int), gk + k = 11 ∧ s7 = .int .i64 i ∧ Hid (i = (k : Int) + 1) ∧ Hid (Sb.KnI p k) ∧ Hid (PB wr g p A' 0 c') ∧ c' ≤ maxLen ∧ Hid (Bel w wr))
  case atStart => exact ⟨0, q2, A2, c2, 1, rfl, rfl, Lib.hid (by decide), HJ2, HB2, hc2, UY⟩
  case round =>
    obtain ⟨k, p, A', c', i, hgk, rfl, HI, HN, HB, hcm, U⟩ := hrel
    by_cases hk : k < 11
    rotate_left
    · obtain rfl : i = 12 := by have h := HI.out; omega
      clear HN HB HI
      go_wp2_with fail
      replace U := Lib.hid (U.out.push (.cells #[.int .u8 206, .int .u8 127] 5))
      refine (kT1.out _ _ (IntsAt.lit0 _ 5 .u8 [206, 127] [.int .u8 206, .int .u8 127] rfl)).mono ?_
      rintro e w5 ⟨A5, c5, rfl, ia5, hb5⟩
      replace U := Lib.hid (U.out.later hb5)
      have Ia := Lib.hid ia5
      clear ia5 hb5
      try simp only [List.length_cons, List.length_nil]
      replace U := Lib.hid (U.out.push (.cells #[.int .i64 0, .int .i64 0] 28))
      replace Ia := Lib.hid (Ia.out.push (.cells #[.int .i64 0, .int .i64 0] 28))
      go_wp2_with fail
      replace U := Lib.hid (U.out.push (.cells #[.int .u8 1] 5))
      replace Ia := Lib.hid (Ia.out.push (.cells #[.int .u8 1] 5))
      refine (kT2.out _ _ (IntsAt.lit1 _ _ 5 .u8 [1] [.int .u8 1] rfl)).mono ?_
      rintro e w6 ⟨A6, c6, rfl, _, hb6⟩
      replace U := Lib.hid (U.out.later hb6)
      replace Ia := Lib.hid (Ia.out.later hb6)
      clear hb6
      try simp only [List.length_cons, List.length_nil]
      replace U := Lib.hid (U.out.push (.cells #[.int .i64 0, .int .i64 0] 28))
      replace Ia := Lib.hid (Ia.out.push (.cells #[.int .i64 0, .int .i64 0] 28))
      have hv1 := run_convert_ints Ia.out 55 9 5 Try.underlying55 Try.underlying5 Try.underlying9 2 c5 rfl
      replace U := Lib.hid (U.out.push (.cells #[.int .u8 251, .int .u8 213] 5))
      have hv2 := run_convert_ints (IntsAt.lit1 w6 (.cells #[.int .i64 0, .int .i64 0] 28) 5 .u8 [251, 213] [.int .u8 251, .int .u8 213] rfl) 55 9 5 Try.underlying55 Try.underlying5 Try.underlying9 2 2 rfl
      clear Ia
      go_wp2_with fail
      refine (lives_any _).mono ?_
      rintro e wv ⟨rfl, hbv⟩
      have UF := U.out.later hbv
      go_wp2_with fail
      go_ret
      exact ⟨by simp, UF⟩
    have hi0 : 1 ≤ i := by have h := HI.out; omega
    have hi1 : i ≤ 11 := by have h := HI.out; omega
    obtain ⟨n1, n2, n3, n4⟩ := HN.out.step
    have HJ := Lib.hid n1.q
    have kS := Lib.hid fun (V : World) (ZA : Option Addr) (zc : Nat) hZ => kn_ka V p k HN.out A' c' hcm ZA zc 0 (by omega) (by omega) hZ
    generalize Sb.send0 p (Sb.flatL 0) = SS at *
    obtain ⟨q, pks⟩ := SS
    dsimp only at n1 n2 n3 n4
    have HN1 := Lib.hid n1
    clear n1 HN
    by_cases h9 : k < 9
    · obtain ⟨k1, rfl, ht, hp⟩ := n2 h9
      clear n2 n3 n4
      have hi2 : i < 10 := by have h := HI.out; omega
      have hs1 : IntKind.i64.wrap (11 - i) = 11 - i := by simp only [IntKind.wrap, IntKind.bits, IntKind.signed]; simp; omega
      have hs2 : IntKind.i64.wrap (i + 1) = i + 1 := by simp only [IntKind.wrap, IntKind.bits, IntKind.signed]; simp; omega
      have hs3 : max 0 (11 - i) = 11 - i := by omega
      have hs4 : min 1 (11 - i) = 1 := by omega
      have hi3 : (i == 10) = false := by rw [beq_eq_false_iff_ne]; omega
      go_upto_region 10 with fail
      refine kn10_wp g p q [k1] A' c' wr HB.out HJ.out kS.out ?_ ?_
      · intro _ _ _ _ _ h; exact h
      intro wx g3 KA kc ks A2 c2 u72 u73 u74 u75 u76 u77 u78 HB3 hc3 HK HP HBL
      replace U := Lib.hid (U.out.later HBL.out)
      replace HB := Lib.hid (PB.later HB.out HBL.out)
      clear HBL kS
      try simp only [List.length_cons, List.length_nil]
      obtain ⟨B9, bc9, rfl⟩ := one_of HK.out
      obtain ⟨bK, oK, rfl, hbK, x1, x9⟩ := kn_cells HP.out
      have hI9 := HP.out.2 _ (List.mem_singleton.2 rfl)
      dsimp only at hI9
      rw [ht] at x1
      rw [hp] at x9 hI9
      rw [Sb.flatL_len] at x9
      obtain ⟨bP, oP, rfl, y0⟩ := kn_pl0 hI9
      clear hI9
      clear HP HK hp ht
      go_upto_region 13 with fail
      go_quiet (fail)
      go_upto_region 15 with fail
      go_wp2_with (first | (refine wpList_load_part rfl 43 (.tmp 8) rfl (g3) 0 rfl 43 (PL q A2 0 c2) (PB.later HB3.out (below_dn _ _)) 48 _ Try.underlying43 info_port (show 0 + 48 ≤ 48 by decide) (PA q A2 0 c2) (by rfl) rfl ?_) | (refine wpList_store_part rfl 43 (.tmp 3) (.tmp 137) rfl (g) 0 rfl 43 (PL p A' 0 c') (PB.later HB.out (below_dn _ _)) (PL q A2 0 c2) rfl info_port (show 0 + 48 ≤ 48 by decide) rfl (PL q A2 0 c2) rfl ?_; intro WF BF OF) | fail)
      have HBF := Lib.hid (show PB WF g q A2 0 c2 from BF)
      replace U := Lib.hid (OF.bel (Bel.later U.out (below_dn _ _)) hwg)
      clear HB BF OF
      go_roundg (gk - 1)
      case measure => omega
      case rel => exact ⟨k + 1, q, A2, c2, i + 1, by omega, by go_num, Lib.hid (by first | decide | (have h := HI.out; push_cast; omega)), HN1, HBF, hc3, U⟩

    by_cases h10 : k = 9
    · obtain rfl : k = 9 := h10
      obtain ⟨k1, rfl, ht, hp⟩ := n3 rfl
      clear n2 n3 n4
      obtain rfl : i = 10 := by have h := HI.out; omega
      go_upto_region 10 with fail
      refine kn10_wp g p q [k1] A' c' wr HB.out HJ.out kS.out ?_ ?_
      · intro _ _ _ _ _ h; exact h
      intro wx g3 KA kc ks A2 c2 u72 u73 u74 u75 u76 u77 u78 HB3 hc3 HK HP HBL
      replace U := Lib.hid (U.out.later HBL.out)
      replace HB := Lib.hid (PB.later HB.out HBL.out)
      clear HBL kS
      try simp only [List.length_cons, List.length_nil]
      obtain ⟨B9, bc9, rfl⟩ := one_of HK.out
      obtain ⟨bK, oK, rfl, hbK, x1, x9⟩ := kn_cells HP.out
      have hI9 := HP.out.2 _ (List.mem_singleton.2 rfl)
      dsimp only at hI9
      rw [ht] at x1
      rw [hp] at x9 hI9
      simp only [List.length_cons, List.length_nil] at x9
      clear HP HK hp ht
      go_upto_region 13 with fail
      have hS0 : Below wx.heap.size wx wx.drew := Below.drew (Below.refl _ _)
      refine wp_region_held_drew (S := fun w' => Below wx.heap.size wx w') (by kernel_rfl) hS0 (fun hHeld => ?_)
      first
        | (refine tk1 (i := 0) (v := ?_) rfl (Or.inl ⟨by rfl, ?_⟩) (by assumption) ?_
           rotate_left
           · (intro w9 hSw; (try dsimp only at hSw); skip; clear hSw; go_simp; try with_reducible rfl))
        | refine tk1 (i := 0) (v := undef) rfl (Or.inr ⟨by rfl, rfl⟩) (by assumption) ?_
      try simp only [List.getElem_toArray, List.getElem_cons_zero, List.getElem_cons_succ, Act.put, List.setIfInBounds_toArray, List.set_cons_zero, List.set_cons_succ]
      first
        | (refine tk1 (i := 1) (v := ?_) rfl (Or.inl ⟨by rfl, ?_⟩) (by assumption) ?_
           rotate_left
           · (intro w9 hSw; (try dsimp only at hSw); skip; clear hSw; go_simp; try with_reducible rfl))
        | refine tk1 (i := 1) (v := undef) rfl (Or.inr ⟨by rfl, rfl⟩) (by assumption) ?_
      try simp only [List.getElem_toArray, List.getElem_cons_zero, List.getElem_cons_succ, Act.put, List.setIfInBounds_toArray, List.set_cons_zero, List.set_cons_succ]
      first
        | (refine tk1 (i := 2) (v := ?_) rfl (Or.inl ⟨by rfl, ?_⟩) (by assumption) ?_
           rotate_left
           · (intro w9 hSw; (try dsimp only at hSw); skip; clear hSw; go_simp; try with_reducible rfl))
        | refine tk1 (i := 2) (v := undef) rfl (Or.inr ⟨by rfl, rfl⟩) (by assumption) ?_
      try simp only [List.getElem_toArray, List.getElem_cons_zero, List.getElem_cons_succ, Act.put, List.setIfInBounds_toArray, List.set_cons_zero, List.set_cons_succ]
      first
        | (refine tk1 (i := 3) (v := ?_) rfl (Or.inl ⟨by rfl, ?_⟩) (by assumption) ?_
           rotate_left
           · (intro w9 hSw; (try dsimp only at hSw); skip; clear hSw; go_simp; try with_reducible rfl))
        | refine tk1 (i := 3) (v := undef) rfl (Or.inr ⟨by rfl, rfl⟩) (by assumption) ?_
      try simp only [List.getElem_toArray, List.getElem_cons_zero, List.getElem_cons_succ, Act.put, List.setIfInBounds_toArray, List.set_cons_zero, List.set_cons_succ]
      first
        | (refine tk1 (i := 4) (v := ?_) rfl (Or.inl ⟨by rfl, ?_⟩) (by assumption) ?_
           rotate_left
           · (intro w9 hSw; (try dsimp only at hSw); skip; clear hSw; go_simp; try with_reducible rfl))
        | refine tk1 (i := 4) (v := undef) rfl (Or.inr ⟨by rfl, rfl⟩) (by assumption) ?_
      try simp only [List.getElem_toArray, List.getElem_cons_zero, List.getElem_cons_succ, Act.put, List.setIfInBounds_toArray, List.set_cons_zero, List.set_cons_succ]
      first
        | (refine tk1 (i := 5) (v := ?_) rfl (Or.inl ⟨by rfl, ?_⟩) (by assumption) ?_
           rotate_left
           · (intro w9 hSw; (try dsimp only at hSw); skip; clear hSw; go_simp; try with_reducible rfl))
        | refine tk1 (i := 5) (v := undef) rfl (Or.inr ⟨by rfl, rfl⟩) (by assumption) ?_
      try simp only [List.getElem_toArray, List.getElem_cons_zero, List.getElem_cons_succ, Act.put, List.setIfInBounds_toArray, List.set_cons_zero, List.set_cons_succ]
      first
        | (refine tk1 (i := 6) (v := ?_) rfl (Or.inl ⟨by rfl, ?_⟩) (by assumption) ?_
           rotate_left
           · (intro w9 hSw; (try dsimp only at hSw); have y := cell_old hSw x1; clear hSw; go_simp; try with_reducible rfl))
        | refine tk1 (i := 6) (v := undef) rfl (Or.inr ⟨by rfl, rfl⟩) (by assumption) ?_
      try simp only [List.getElem_toArray, List.getElem_cons_zero, List.getElem_cons_succ, Act.put, List.setIfInBounds_toArray, List.set_cons_zero, List.set_cons_succ]
      first
        | (refine tk1 (i := 7) (v := ?_) rfl (Or.inl ⟨by rfl, ?_⟩) (by assumption) ?_
           rotate_left
           · (intro w9 hSw; (try dsimp only at hSw); skip; clear hSw; go_simp; try with_reducible rfl))
        | refine tk1 (i := 7) (v := undef) rfl (Or.inr ⟨by rfl, rfl⟩) (by assumption) ?_
      try simp only [List.getElem_toArray, List.getElem_cons_zero, List.getElem_cons_succ, Act.put, List.setIfInBounds_toArray, List.set_cons_zero, List.set_cons_succ]
      first
        | (refine tk1 (i := 8) (v := ?_) rfl (Or.inl ⟨by rfl, ?_⟩) (by assumption) ?_
           rotate_left
           · (intro w9 hSw; (try dsimp only at hSw); skip; clear hSw; go_simp; try with_reducible rfl))
        | refine tk1 (i := 8) (v := undef) rfl (Or.inr ⟨by rfl, rfl⟩) (by assumption) ?_
      try simp only [List.getElem_toArray, List.getElem_cons_zero, List.getElem_cons_succ, Act.put, List.setIfInBounds_toArray, List.set_cons_zero, List.set_cons_succ]
      first
        | (refine tk1 (i := 9) (v := ?_) rfl (Or.inl ⟨by rfl, ?_⟩) (by assumption) ?_
           rotate_left
           · (intro w9 hSw; (try dsimp only at hSw); skip; clear hSw; go_simp; try with_reducible rfl))
        | refine tk1 (i := 9) (v := undef) rfl (Or.inr ⟨by rfl, rfl⟩) (by assumption) ?_
      try simp only [List.getElem_toArray, List.getElem_cons_zero, List.getElem_cons_succ, Act.put, List.setIfInBounds_toArray, List.set_cons_zero, List.set_cons_succ]
      first
        | (refine tk1 (i := 10) (v := ?_) rfl (Or.inl ⟨by rfl, ?_⟩) (by assumption) ?_
           rotate_left
           · (intro w9 hSw; (try dsimp only at hSw); skip; clear hSw; go_simp; try with_reducible rfl))
        | refine tk1 (i := 10) (v := undef) rfl (Or.inr ⟨by rfl, rfl⟩) (by assumption) ?_
      try simp only [List.getElem_toArray, List.getElem_cons_zero, List.getElem_cons_succ, Act.put, List.setIfInBounds_toArray, List.set_cons_zero, List.set_cons_succ]
      first
        | (refine tk1 (i := 11) (v := ?_) rfl (Or.inl ⟨by rfl, ?_⟩) (by assumption) ?_
           rotate_left
           · (intro w9 hSw; (try dsimp only at hSw); skip; clear hSw; go_simp; try with_reducible rfl))
        | refine tk1 (i := 11) (v := undef) rfl (Or.inr ⟨by rfl, rfl⟩) (by assumption) ?_
      try simp only [List.getElem_toArray, List.getElem_cons_zero, List.getElem_cons_succ, Act.put, List.setIfInBounds_toArray, List.set_cons_zero, List.set_cons_succ]
      first
        | (refine tk1 (i := 12) (v := ?_) rfl (Or.inl ⟨by rfl, ?_⟩) (by assumption) ?_
           rotate_left
           · (intro w9 hSw; (try dsimp only at hSw); have y := cell_old hSw x9; clear hSw; go_simp; try with_reducible rfl))
        | refine tk1 (i := 12) (v := undef) rfl (Or.inr ⟨by rfl, rfl⟩) (by assumption) ?_
      try simp only [List.getElem_toArray, List.getElem_cons_zero, List.getElem_cons_succ, Act.put, List.setIfInBounds_toArray, List.set_cons_zero, List.set_cons_succ]
      first
        | (refine tk1 (i := 13) (v := ?_) rfl (Or.inl ⟨by rfl, ?_⟩) (by assumption) ?_
           rotate_left
           · (intro w9 hSw; (try dsimp only at hSw); skip; clear hSw; go_simp; try with_reducible rfl))
        | refine tk1 (i := 13) (v := undef) rfl (Or.inr ⟨by rfl, rfl⟩) (by assumption) ?_
      try simp only [List.getElem_toArray, List.getElem_cons_zero, List.getElem_cons_succ, Act.put, List.setIfInBounds_toArray, List.set_cons_zero, List.set_cons_succ]
      first
        | (refine tk1 (i := 14) (v := ?_) rfl (Or.inl ⟨by rfl, ?_⟩) (by assumption) ?_
           rotate_left
           · (intro w9 hSw; (try dsimp only at hSw); skip; clear hSw; go_simp; try with_reducible rfl))
        | refine tk1 (i := 14) (v := undef) rfl (Or.inr ⟨by rfl, rfl⟩) (by assumption) ?_
      try simp only [List.getElem_toArray, List.getElem_cons_zero, List.getElem_cons_succ, Act.put, List.setIfInBounds_toArray, List.set_cons_zero, List.set_cons_succ]
      first
        | (refine tk1 (i := 15) (v := ?_) rfl (Or.inl ⟨by rfl, ?_⟩) (by assumption) ?_
           rotate_left
           · (intro w9 hSw; (try dsimp only at hSw); skip; clear hSw; go_simp; try with_reducible rfl))
        | refine tk1 (i := 15) (v := undef) rfl (Or.inr ⟨by rfl, rfl⟩) (by assumption) ?_
      try simp only [List.getElem_toArray, List.getElem_cons_zero, List.getElem_cons_succ, Act.put, List.setIfInBounds_toArray, List.set_cons_zero, List.set_cons_succ]
      first
        | (refine tk1 (i := 16) (v := ?_) rfl (Or.inl ⟨by rfl, ?_⟩) (by assumption) ?_
           rotate_left
           · (intro w9 hSw; (try dsimp only at hSw); skip; clear hSw; go_simp; try with_reducible rfl))
        | refine tk1 (i := 16) (v := undef) rfl (Or.inr ⟨by rfl, rfl⟩) (by assumption) ?_
      try simp only [List.getElem_toArray, List.getElem_cons_zero, List.getElem_cons_succ, Act.put, List.setIfInBounds_toArray, List.set_cons_zero, List.set_cons_succ]
      first
        | (refine tk1 (i := 17) (v := ?_) rfl (Or.inl ⟨by rfl, ?_⟩) (by assumption) ?_
           rotate_left
           · (intro w9 hSw; (try dsimp only at hSw); skip; clear hSw; go_simp; try with_reducible rfl))
        | refine tk1 (i := 17) (v := undef) rfl (Or.inr ⟨by rfl, rfl⟩) (by assumption) ?_
      try simp only [List.getElem_toArray, List.getElem_cons_zero, List.getElem_cons_succ, Act.put, List.setIfInBounds_toArray, List.set_cons_zero, List.set_cons_succ]
      first
        | (refine tk1 (i := 18) (v := ?_) rfl (Or.inl ⟨by rfl, ?_⟩) (by assumption) ?_
           rotate_left
           · (intro w9 hSw; (try dsimp only at hSw); skip; clear hSw; go_simp; try with_reducible rfl))
        | refine tk1 (i := 18) (v := undef) rfl (Or.inr ⟨by rfl, rfl⟩) (by assumption) ?_
      try simp only [List.getElem_toArray, List.getElem_cons_zero, List.getElem_cons_succ, Act.put, List.setIfInBounds_toArray, List.set_cons_zero, List.set_cons_succ]
      first
        | (refine tk1 (i := 19) (v := ?_) rfl (Or.inl ⟨by rfl, ?_⟩) (by assumption) ?_
           rotate_left
           · (intro w9 hSw; (try dsimp only at hSw); skip; clear hSw; go_simp; try with_reducible rfl))
        | refine tk1 (i := 19) (v := undef) rfl (Or.inr ⟨by rfl, rfl⟩) (by assumption) ?_
      try simp only [List.getElem_toArray, List.getElem_cons_zero, List.getElem_cons_succ, Act.put, List.setIfInBounds_toArray, List.set_cons_zero, List.set_cons_succ]
      first
        | (refine tk1 (i := 20) (v := ?_) rfl (Or.inl ⟨by rfl, ?_⟩) (by assumption) ?_
           rotate_left
           · (intro w9 hSw; (try dsimp only at hSw); skip; clear hSw; go_simp; try with_reducible rfl))
        | refine tk1 (i := 20) (v := undef) rfl (Or.inr ⟨by rfl, rfl⟩) (by assumption) ?_
      try simp only [List.getElem_toArray, List.getElem_cons_zero, List.getElem_cons_succ, Act.put, List.setIfInBounds_toArray, List.set_cons_zero, List.set_cons_succ]
      first
        | (refine tk1 (i := 21) (v := ?_) rfl (Or.inl ⟨by rfl, ?_⟩) (by assumption) ?_
           rotate_left
           · (intro w9 hSw; (try dsimp only at hSw); skip; clear hSw; go_simp; try with_reducible rfl))
        | refine tk1 (i := 21) (v := undef) rfl (Or.inr ⟨by rfl, rfl⟩) (by assumption) ?_
      try simp only [List.getElem_toArray, List.getElem_cons_zero, List.getElem_cons_succ, Act.put, List.setIfInBounds_toArray, List.set_cons_zero, List.set_cons_succ]
      first
        | (refine tk1 (i := 22) (v := ?_) rfl (Or.inl ⟨by rfl, ?_⟩) (by assumption) ?_
           rotate_left
           · (intro w9 hSw; (try dsimp only at hSw); skip; clear hSw; go_simp; try with_reducible rfl))
        | refine tk1 (i := 22) (v := undef) rfl (Or.inr ⟨by rfl, rfl⟩) (by assumption) ?_
      try simp only [List.getElem_toArray, List.getElem_cons_zero, List.getElem_cons_succ, Act.put, List.setIfInBounds_toArray, List.set_cons_zero, List.set_cons_succ]
      first
        | (refine tk1 (i := 23) (v := ?_) rfl (Or.inl ⟨by rfl, ?_⟩) (by assumption) ?_
           rotate_left
           · (intro w9 hSw; (try dsimp only at hSw); skip; clear hSw; go_simp; try with_reducible rfl))
        | refine tk1 (i := 23) (v := undef) rfl (Or.inr ⟨by rfl, rfl⟩) (by assumption) ?_
      try simp only [List.getElem_toArray, List.getElem_cons_zero, List.getElem_cons_succ, Act.put, List.setIfInBounds_toArray, List.set_cons_zero, List.set_cons_succ]
      first
        | (refine tk1 (i := 24) (v := ?_) rfl (Or.inl ⟨by rfl, ?_⟩) (by assumption) ?_
           rotate_left
           · (intro w9 hSw; (try dsimp only at hSw); skip; clear hSw; go_simp; try with_reducible rfl))
        | refine tk1 (i := 24) (v := undef) rfl (Or.inr ⟨by rfl, rfl⟩) (by assumption) ?_
      try simp only [List.getElem_toArray, List.getElem_cons_zero, List.getElem_cons_succ, Act.put, List.setIfInBounds_toArray, List.set_cons_zero, List.set_cons_succ]
      first
        | (refine tk1 (i := 25) (v := ?_) rfl (Or.inl ⟨by rfl, ?_⟩) (by assumption) ?_
           rotate_left
           · (intro w9 hSw; (try dsimp only at hSw); skip; clear hSw; go_simp; try with_reducible rfl))
        | refine tk1 (i := 25) (v := undef) rfl (Or.inr ⟨by rfl, rfl⟩) (by assumption) ?_
      try simp only [List.getElem_toArray, List.getElem_cons_zero, List.getElem_cons_succ, Act.put, List.setIfInBounds_toArray, List.set_cons_zero, List.set_cons_succ]
      first
        | (refine tk1 (i := 26) (v := ?_) rfl (Or.inl ⟨by rfl, ?_⟩) (by assumption) ?_
           rotate_left
           · (intro w9 hSw; (try dsimp only at hSw); skip; clear hSw; go_simp; try with_reducible rfl))
        | refine tk1 (i := 26) (v := undef) rfl (Or.inr ⟨by rfl, rfl⟩) (by assumption) ?_
      try simp only [List.getElem_toArray, List.getElem_cons_zero, List.getElem_cons_succ, Act.put, List.setIfInBounds_toArray, List.set_cons_zero, List.set_cons_succ]
      first
        | (refine tk1 (i := 27) (v := ?_) rfl (Or.inl ⟨by rfl, ?_⟩) (by assumption) ?_
           rotate_left
           · (intro w9 hSw; (try dsimp only at hSw); skip; clear hSw; go_simp; try with_reducible rfl))
        | refine tk1 (i := 27) (v := undef) rfl (Or.inr ⟨by rfl, rfl⟩) (by assumption) ?_
      try simp only [List.getElem_toArray, List.getElem_cons_zero, List.getElem_cons_succ, Act.put, List.setIfInBounds_toArray, List.set_cons_zero, List.set_cons_succ]
      first
        | (refine tk1 (i := 28) (v := ?_) rfl (Or.inl ⟨by rfl, ?_⟩) (by assumption) ?_
           rotate_left
           · (intro w9 hSw; (try dsimp only at hSw); skip; clear hSw; go_simp; try with_reducible rfl))
        | refine tk1 (i := 28) (v := undef) rfl (Or.inr ⟨by rfl, rfl⟩) (by assumption) ?_
      try simp only [List.getElem_toArray, List.getElem_cons_zero, List.getElem_cons_succ, Act.put, List.setIfInBounds_toArray, List.set_cons_zero, List.set_cons_succ]
      first
        | (refine tk1 (i := 29) (v := ?_) rfl (Or.inl ⟨by rfl, ?_⟩) (by assumption) ?_
           rotate_left
           · (intro w9 hSw; (try dsimp only at hSw); skip; clear hSw; go_simp; try with_reducible rfl))
        | refine tk1 (i := 29) (v := undef) rfl (Or.inr ⟨by rfl, rfl⟩) (by assumption) ?_
      try simp only [List.getElem_toArray, List.getElem_cons_zero, List.getElem_cons_succ, Act.put, List.setIfInBounds_toArray, List.set_cons_zero, List.set_cons_succ]
      first
        | (refine tk1 (i := 30) (v := ?_) rfl (Or.inl ⟨by rfl, ?_⟩) (by assumption) ?_
           rotate_left
           · (intro w9 hSw; (try dsimp only at hSw); skip; clear hSw; go_simp; try with_reducible rfl))
        | refine tk1 (i := 30) (v := undef) rfl (Or.inr ⟨by rfl, rfl⟩) (by assumption) ?_
      try simp only [List.getElem_toArray, List.getElem_cons_zero, List.getElem_cons_succ, Act.put, List.setIfInBounds_toArray, List.set_cons_zero, List.set_cons_succ]
      first
        | (refine tk1 (i := 31) (v := ?_) rfl (Or.inl ⟨by rfl, ?_⟩) (by assumption) ?_
           rotate_left
           · (intro w9 hSw; (try dsimp only at hSw); skip; clear hSw; go_simp; try with_reducible rfl))
        | refine tk1 (i := 31) (v := undef) rfl (Or.inr ⟨by rfl, rfl⟩) (by assumption) ?_
      try simp only [List.getElem_toArray, List.getElem_cons_zero, List.getElem_cons_succ, Act.put, List.setIfInBounds_toArray, List.set_cons_zero, List.set_cons_succ]
      first
        | (refine tk1 (i := 32) (v := ?_) rfl (Or.inl ⟨by rfl, ?_⟩) (by assumption) ?_
           rotate_left
           · (intro w9 hSw; (try dsimp only at hSw); skip; clear hSw; go_simp; try with_reducible rfl))
        | refine tk1 (i := 32) (v := undef) rfl (Or.inr ⟨by rfl, rfl⟩) (by assumption) ?_
      try simp only [List.getElem_toArray, List.getElem_cons_zero, List.getElem_cons_succ, Act.put, List.setIfInBounds_toArray, List.set_cons_zero, List.set_cons_succ]
      first
        | (refine tk1 (i := 33) (v := ?_) rfl (Or.inl ⟨by rfl, ?_⟩) (by assumption) ?_
           rotate_left
           · (intro w9 hSw; (try dsimp only at hSw); have y := cell_old hSw x1; clear hSw; go_simp; try with_reducible rfl))
        | refine tk1 (i := 33) (v := undef) rfl (Or.inr ⟨by rfl, rfl⟩) (by assumption) ?_
      try simp only [List.getElem_toArray, List.getElem_cons_zero, List.getElem_cons_succ, Act.put, List.setIfInBounds_toArray, List.set_cons_zero, List.set_cons_succ]
      first
        | (refine tk1 (i := 34) (v := ?_) rfl (Or.inl ⟨by rfl, ?_⟩) (by assumption) ?_
           rotate_left
           · (intro w9 hSw; (try dsimp only at hSw); skip; clear hSw; go_simp; try with_reducible rfl))
        | refine tk1 (i := 34) (v := undef) rfl (Or.inr ⟨by rfl, rfl⟩) (by assumption) ?_
      try simp only [List.getElem_toArray, List.getElem_cons_zero, List.getElem_cons_succ, Act.put, List.setIfInBounds_toArray, List.set_cons_zero, List.set_cons_succ]
      first
        | (refine tk1 (i := 35) (v := ?_) rfl (Or.inl ⟨by rfl, ?_⟩) (by assumption) ?_
           rotate_left
           · (intro w9 hSw; (try dsimp only at hSw); skip; clear hSw; go_simp; try with_reducible rfl))
        | refine tk1 (i := 35) (v := undef) rfl (Or.inr ⟨by rfl, rfl⟩) (by assumption) ?_
      try simp only [List.getElem_toArray, List.getElem_cons_zero, List.getElem_cons_succ, Act.put, List.setIfInBounds_toArray, List.set_cons_zero, List.set_cons_succ]
      first
        | (refine tk1 (i := 36) (v := ?_) rfl (Or.inl ⟨by rfl, ?_⟩) (by assumption) ?_
           rotate_left
           · (intro w9 hSw; (try dsimp only at hSw); skip; clear hSw; go_simp; try with_reducible rfl))
        | refine tk1 (i := 36) (v := undef) rfl (Or.inr ⟨by rfl, rfl⟩) (by assumption) ?_
      try simp only [List.getElem_toArray, List.getElem_cons_zero, List.getElem_cons_succ, Act.put, List.setIfInBounds_toArray, List.set_cons_zero, List.set_cons_succ]
      first
        | (refine tk1 (i := 37) (v := ?_) rfl (Or.inl ⟨by rfl, ?_⟩) (by assumption) ?_
           rotate_left
           · (intro w9 hSw; (try dsimp only at hSw); skip; clear hSw; go_simp; try with_reducible rfl))
        | refine tk1 (i := 37) (v := undef) rfl (Or.inr ⟨by rfl, rfl⟩) (by assumption) ?_
      try simp only [List.getElem_toArray, List.getElem_cons_zero, List.getElem_cons_succ, Act.put, List.setIfInBounds_toArray, List.set_cons_zero, List.set_cons_succ]
      first
        | (refine tk1 (i := 38) (v := ?_) rfl (Or.inl ⟨by rfl, ?_⟩) (by assumption) ?_
           rotate_left
           · (intro w9 hSw; (try dsimp only at hSw); skip; clear hSw; go_simp; try with_reducible rfl))
        | refine tk1 (i := 38) (v := undef) rfl (Or.inr ⟨by rfl, rfl⟩) (by assumption) ?_
      try simp only [List.getElem_toArray, List.getElem_cons_zero, List.getElem_cons_succ, Act.put, List.setIfInBounds_toArray, List.set_cons_zero, List.set_cons_succ]
      first
        | (refine tk1 (i := 39) (v := ?_) rfl (Or.inl ⟨by rfl, ?_⟩) (by assumption) ?_
           rotate_left
           · (intro w9 hSw; (try dsimp only at hSw); have y := cell_old hSw x9; clear hSw; go_simp; try with_reducible rfl))
        | refine tk1 (i := 39) (v := undef) rfl (Or.inr ⟨by rfl, rfl⟩) (by assumption) ?_
      try simp only [List.getElem_toArray, List.getElem_cons_zero, List.getElem_cons_succ, Act.put, List.setIfInBounds_toArray, List.set_cons_zero, List.set_cons_succ]
      first
        | (refine tk1 (i := 40) (v := ?_) rfl (Or.inl ⟨by rfl, ?_⟩) (by assumption) ?_
           rotate_left
           · (intro w9 hSw; (try dsimp only at hSw); have y := run_convert_ints (P := Try.prog) (hI9.later hSw) 55 9 5 Try.underlying55 Try.underlying5 Try.underlying9 1 bc9 rfl; clear hSw; go_simp; try with_reducible rfl))
        | refine tk1 (i := 40) (v := undef) rfl (Or.inr ⟨by rfl, rfl⟩) (by assumption) ?_
      try simp only [List.getElem_toArray, List.getElem_cons_zero, List.getElem_cons_succ, Act.put, List.setIfInBounds_toArray, List.set_cons_zero, List.set_cons_succ]
      refine wpAnyH_ready (rs := [41]) (by kernel_rfl) (by simp) ?_
      refine AllReadyH.cons (o := _) rfl (fun K hK => ?_) ?_
      rotate_left
      · exact AllReadyH.nil
      go_simp
      refine hK.out _ _ ?_ (fun hHeld => ?_)
      · first | exact Below.drew (below_new_old (Below.refl _ _) _) | exact below_new_old hHeld _
      clear hK K
      try simp only [List.getElem_toArray, List.getElem_cons_zero, List.getElem_cons_succ, Act.put, List.setIfInBounds_toArray, List.set_cons_zero, List.set_cons_succ]
      have hl2 : IntsAt (wx.alloc (.cells #[.int .u8 127] 5)).drew (wx.alloc (.cells #[.int .u8 127] 5)).heap.size .u8 (some ⟨wx.heap.size, 0, none⟩) [127] := IntsAt.lit0 wx 5 .u8 [127] [.int .u8 127] rfl
      have hv2 := run_convert_ints (P := Try.prog) hl2 55 9 5 Try.underlying55 Try.underlying5 Try.underlying9 1 1 rfl
      refine wpAnyH_ready (rs := [42]) (by kernel_rfl) (by simp) ?_
      refine AllReadyH.cons (o := _) rfl (fun K hK => ?_) ?_
      rotate_left
      · exact AllReadyH.nil
      go_simp
      refine hK.out _ _ hHeld (fun hHeld => ?_)
      clear hK K hv2 hl2
      try simp only [List.getElem_toArray, List.getElem_cons_zero, List.getElem_cons_succ, Act.put, List.setIfInBounds_toArray, List.set_cons_zero, List.set_cons_succ]
      first
        | (refine tk1 (i := 43) (v := ?_) rfl (Or.inl ⟨by rfl, ?_⟩) (by assumption) ?_
           rotate_left
           · (intro w9 hSw; (try dsimp only at hSw); skip; clear hSw; go_simp; try with_reducible rfl))
        | refine tk1 (i := 43) (v := undef) rfl (Or.inr ⟨by rfl, rfl⟩) (by assumption) ?_
      try simp only [List.getElem_toArray, List.getElem_cons_zero, List.getElem_cons_succ, Act.put, List.setIfInBounds_toArray, List.set_cons_zero, List.set_cons_succ]
      first
        | (refine tk1 (i := 44) (v := ?_) rfl (Or.inl ⟨by rfl, ?_⟩) (by assumption) ?_
           rotate_left
           · (intro w9 hSw; (try dsimp only at hSw); skip; clear hSw; go_simp; try with_reducible rfl))
        | refine tk1 (i := 44) (v := undef) rfl (Or.inr ⟨by rfl, rfl⟩) (by assumption) ?_
      try simp only [List.getElem_toArray, List.getElem_cons_zero, List.getElem_cons_succ, Act.put, List.setIfInBounds_toArray, List.set_cons_zero, List.set_cons_succ]
      first
        | (refine tk1 (i := 45) (v := ?_) rfl (Or.inl ⟨by rfl, ?_⟩) (by assumption) ?_
           rotate_left
           · (intro w9 hSw; (try dsimp only at hSw); skip; clear hSw; go_simp; try with_reducible rfl))
        | refine tk1 (i := 45) (v := undef) rfl (Or.inr ⟨by rfl, rfl⟩) (by assumption) ?_
      try simp only [List.getElem_toArray, List.getElem_cons_zero, List.getElem_cons_succ, Act.put, List.setIfInBounds_toArray, List.set_cons_zero, List.set_cons_succ]
      first
        | (refine tk1 (i := 46) (v := ?_) rfl (Or.inl ⟨by rfl, ?_⟩) (by assumption) ?_
           rotate_left
           · (intro w9 hSw; (try dsimp only at hSw); skip; clear hSw; go_simp; try with_reducible rfl))
        | refine tk1 (i := 46) (v := undef) rfl (Or.inr ⟨by rfl, rfl⟩) (by assumption) ?_
      try simp only [List.getElem_toArray, List.getElem_cons_zero, List.getElem_cons_succ, Act.put, List.setIfInBounds_toArray, List.set_cons_zero, List.set_cons_succ]
      refine wpAnyH_done (by kernel_rfl) ?_ _
      go_upto_region 15 with fail
      go_wp2_with (first | (refine wpList_load_part rfl 43 (.tmp 8) rfl (g3) 0 rfl 43 (PL q A2 0 c2) (PB.later HB3.out hHeld) 48 _ Try.underlying43 info_port (show 0 + 48 ≤ 48 by decide) (PA q A2 0 c2) (by rfl) rfl ?_) | (refine wpList_store_part rfl 43 (.tmp 3) (.tmp 137) rfl (g) 0 rfl 43 (PL p A' 0 c') (PB.later HB.out hHeld) (PL q A2 0 c2) rfl info_port (show 0 + 48 ≤ 48 by decide) rfl (PL q A2 0 c2) rfl ?_; intro WF BF OF) | fail)
      have HBF := Lib.hid (show PB WF g q A2 0 c2 from BF)
      replace U := Lib.hid (OF.bel (Bel.later U.out hHeld) hwg)
      clear HB BF OF
      go_roundg (gk - 1)
      case measure => omega
      case rel => exact ⟨10, q, A2, c2, 11, by omega, by go_num, Lib.hid (by first | decide | (have h := HI.out; push_cast; omega)), HN1, HBF, hc3, U⟩

    obtain rfl : k = 10 := by omega
    obtain rfl := n4 (Nat.le_refl _)
    clear n2 n3 n4
    obtain rfl : i = 11 := by have h := HI.out; omega
    go_upto_region 10 with fail
    refine kn10_wp g p q [] A' c' wr HB.out HJ.out kS.out ?_ ?_
    · intro _ _ _ _ _ h; exact h
    intro wx g3 KA kc ks A2 c2 u72 u73 u74 u75 u76 u77 u78 HB3 hc3 HK HP HBL
    replace U := Lib.hid (U.out.later HBL.out)
    replace HB := Lib.hid (PB.later HB.out HBL.out)
    clear HBL kS
    try simp only [List.length_cons, List.length_nil]
    clear HP HK
    go_upto_region 13 with fail
    go_quiet (fail)
    go_upto_region 15 with fail
    go_wp2_with (first | (refine wpList_load_part rfl 43 (.tmp 8) rfl (g3) 0 rfl 43 (PL q A2 0 c2) (PB.later HB3.out (below_dn _ _)) 48 _ Try.underlying43 info_port (show 0 + 48 ≤ 48 by decide) (PA q A2 0 c2) (by rfl) rfl ?_) | (refine wpList_store_part rfl 43 (.tmp 3) (.tmp 137) rfl (g) 0 rfl 43 (PL p A' 0 c') (PB.later HB.out (below_dn _ _)) (PL q A2 0 c2) rfl info_port (show 0 + 48 ≤ 48 by decide) rfl (PL q A2 0 c2) rfl ?_; intro WF BF OF) | fail)
    have HBF := Lib.hid (show PB WF g q A2 0 c2 from BF)
    replace U := Lib.hid (OF.bel (Bel.later U.out (below_dn _ _)) hwg)
    clear HB BF OF
    go_roundg (gk - 1)
    case measure => omega
    case rel => exact ⟨11, q, A2, c2, 12, by omega, by go_num, Lib.hid (by first | decide | (have h := HI.out; push_cast; omega)), HN1, HBF, hc3, U⟩
end Go.Proofs.Ytahbecinkciahaa
