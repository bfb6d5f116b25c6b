/- Layer 30: copyMedia. -/
import Derived.Test.YtahbecinkciahaaGreatSs9S
import Derived.Laws.CopyOwn
import Derived.Laws.Rows
import Derived.Deep.LoopGhost
import Derived.Deep.CutRange
import Derived.Deep.DeepCutAuto
import Derived.RegionCalls
import Derived.Deep.RegionWith
import Derived.Deep.RegionHeld3
import Derived.Maps.OwnOps
import Derived.Maps.Views
import Derived.Laws.EntriesVeiled
import Derived.Test.YtahbecinkciahaaGreatRows
import Derived.WalkSpells
import Derived.WalkLawsBesides
import Derived.Deep.MidRow
import Derived.Outline
import Derived.Deep.QuietTactic
import Derived.BigQuiet
import Derived.RegionTactic
set_option linter.unusedVariables false
set_option linter.unusedSimpArgs false
set_option maxRecDepth 100000
set_option maxHeartbeats 12800000
namespace Go.Proofs.YtahbecinkciahaaGreat
attribute [local go_sem ↓] zac zad
attribute [local go_sem] zab zag
open Go.RowKit
theorem zrd : (Tryz.prog.info? 5).map (fun i => (i.zero, i.size, i.bytes)) = some (some (.int .u8 0), 1, 1) := by kernel_rfl
def u8s (l : List Int) : List Value := l.map (Value.int .u8)
theorem zov {w : World} {g : Nat} {t : TypeId} {bs : List Int} (h : Blk w g t (u8s bs).toArray) : IntsAt w w.heap.size .u8 (some ⟨g, 0, none⟩) bs := fun h0 => by
 refine ⟨g, 0, rfl, h.lt, fun i hi => ?_⟩
 rw [Nat.zero_add, h.cell i]
 simp [u8s, List.getElem?_eq_getElem hi, List.getD_eq_getElem?_getD]
def MediaR (sq ti : Int) (mk : Bool) (ty : Int) (pl : List Int) (w : World) (e : Ending) (w' : World) : Prop :=
 ∃ (A' : Option Addr) (c' : Nat), e = .returned (.agg #[.int .i64 sq, .int .i64 ti, .bool mk, .int .u8 ty, .slice A' pl.length c']) ∧ IntsNew w.heap.size w' .u8 A' pl ∧ Below w.heap.size w w' ∧ pl.length ≤ c'
theorem zgb (sq ti : Int) (mk : Bool) (ty : Int) (A : Option Addr) (c : Nat) (w : World) : Calls Tryz.prog 107 #[.agg #[.int .i64 sq, .int .i64 ti, .bool mk, .int .u8 ty, .slice A 0 c]] w (MediaR sq ti mk ty [] w) := by
 go_enter Tryz.func107, Tryz.ntmps107
 go_wp2_with fail
 have U := H9 (((Bel.refl w).push (.cells #[.int .i64 sq, .int .i64 ti, .bool mk, .int .u8 ty, .slice none 0 0] 103)).push (.cells #[.int .i64 sq, .int .i64 ti, .bool mk, .int .u8 ty, .slice none 0 0] 103))
 have B := H9 (Blk.new1 w (.cells #[.int .i64 sq, .int .i64 ti, .bool mk, .int .u8 ty, .slice none 0 0] 103) 103 #[.int .i64 sq, .int .i64 ti, .bool mk, .int .u8 ty, .slice none 0 0])
 exact bodyPost_ret (v := .agg #[.int .i64 sq, .int .i64 ti, .bool mk, .int .u8 ty, .slice none 0 0]) (zcl Tryz.results107 rfl (run_loadVar_row (P := Tryz.prog) _ _ _ _ _ _ _ B.out Tryz.underlying103 rfl (by kernel_rfl))) rfl ⟨none, 0, rfl, IntsNew.nil, U.out, Nat.le_refl _⟩
theorem zfl (sq ti : Int) (mk : Bool) (ty : Int) (A : Option Addr) (pl : List Int) (c : Nat) (w : World) (hA : IntsAt w w.heap.size .u8 A pl) (hl : pl.length ≤ 1000000) (h0 : 0 < pl.length) : Calls Tryz.prog 107 #[.agg #[.int .i64 sq, .int .i64 ti, .bool mk, .int .u8 ty, .slice A pl.length c]] w (MediaR sq ti mk ty pl w) := by
 obtain ⟨b, off, rfl, hbB, qc⟩ := hA h0
 obtain ⟨W0, hW0⟩ : ∃ W0, W0 = (w.alloc (.cells #[.int .i64 sq, .int .i64 ti, .bool mk, .int .u8 ty, .slice (some ⟨b, off, none⟩) pl.length c] 103)).alloc (.cells #[.int .i64 0, .int .i64 0, .bool false, .int .u8 0, .slice none 0 0] 103) := ⟨_, rfl⟩
 have hmk := run_make_row' (P := Tryz.prog) 22 5 (.int .u8 0) 1 Tryz.underlying22 zrd rfl .i64 .i64 pl.length (by omega) (by omega) W0
 obtain ⟨cur, hcur⟩ : ∃ cur : List Value, cur = (madeCells #[.int .u8 0] pl.length).toList := ⟨_, rfl⟩
 have hcl : cur.length = pl.length := by rw [hcur]; simp [madeCells]
 have hs0 : W0.heap.size = w.heap.size + 1 + 1 := by rw [hW0]; simp
 obtain ⟨W1, hW1⟩ : ∃ W1, W1 = W0.alloc (.cells (madeCells #[.int .u8 0] pl.length) 5) := ⟨_, rfl⟩
 have hB : Blk W1 (w.heap.size + 1 + 1) 5 cur.toArray := by rw [hW1, hcur, Array.toArray_toList, ← hs0]; exact Blk.new _ _ _
 have hU : Below W0.heap.size W0 W1 := by rw [hW1]; exact (Below.refl _ _).alloc (Nat.le_refl _) _
 have BX : Blk W0 w.heap.size 103 #[.int .i64 sq, .int .i64 ti, .bool mk, .int .u8 ty, .slice (some ⟨b, off, none⟩) pl.length c] := by rw [hW0]; exact (Blk.new w _ _).push _
 have BZ : Blk W0 (w.heap.size + 1) 103 #[.int .i64 0, .int .i64 0, .bool false, .int .u8 0, .slice none 0 0] := by rw [hW0]; exact Blk.new1 w _ _ _
 have UW : Bel w W0 := by rw [hW0]; exact ((Bel.refl w).push _).push _
 rw [← hW1, hs0] at hmk
 have hl1 : ¬pl.length = 0 := by omega
 have hl2 : ¬pl = [] := by intro h5; rw [h5] at hl1; exact hl1 rfl
 have hl3 : (0 : Int) < (pl.length : Int) := by omega
 have hsp : splice cur 0 (u8s pl) = u8s pl := by simp [splice, u8s, hcl]
 have UW1 : Bel w W1 := UW.later hU
 have HC : ∀ j v, (u8s pl)[j]? = some v → W1.cell? ((⟨b, off, none⟩ : Addr).add j) = some v := by
  intro j v hv
  have hj : j < pl.length := by
   have := (List.getElem?_eq_some_iff.1 hv).1
   simpa [u8s] using this
  have := (UW1.cell (p := ⟨b, off + j, none⟩) hbB).trans (qc j hj)
  rw [show ((⟨b, off, none⟩ : Addr).add j) = ⟨b, off + j, none⟩ by simp [Addr.add], this]
  simp [u8s, List.getElem?_eq_getElem hj] at hv
  rw [← hv]; simp [List.getD_eq_getElem?_getD, List.getElem?_eq_getElem hj]
 have x4 := (BX.later hU).at 4 _ rfl
 have HCC := H9 HC
 have HB := H9 hB
 have HU := H9 hU
 have HSP := H9 hsp
 have HCL := H9 hcl
 have HBX := H9 BX
 have HBZ := H9 BZ
 have HUW := H9 UW
 have HS0 := H9 hs0
 have hmk' := hmk
 rw [hW0] at hmk'
 clear HC hB hU hsp qc hA hcl BX BZ UW UW1 hs0 hW1 hcur hmk
 go_enter Tryz.func107, Tryz.ntmps107
 go_wp2_with (refine wpList_copy_splice (o := ⟨some 15, _, _, _, _, _⟩) rfl (.tmp 12) (.tmp 14) 22 22 rfl 5 Tryz.underlying22 (by kernel_rfl) _ _ _ _ _ _ rfl rfl (w.heap.size + 1 + 1) 0 cur 5 HB.out (u8s pl) (by simp [u8s]) (fun _ => ⟨rfl, _, rfl, HCC.out⟩) (by rw [HCL.out]; simp [u8s]) (by intro v hv; simp [u8s] at hv; obtain ⟨z, _, rfl⟩ := hv; rfl) W0.heap.size W0 HU.out (by rw [HS0.out]; exact Nat.le_refl _) ?_
              intro w2 hB2 hU2
              have hz2 := (HBX.out.later hU2).frozen
              have x0 := (HBX.out.later hU2).at 0 _ rfl
              have x1 := (HBX.out.later hU2).at 1 _ rfl
              have x2 := (HBX.out.later hU2).at 2 _ rfl
              have x3 := (HBX.out.later hU2).at 3 _ rfl
              have x4' := (HBX.out.later hU2).at 4 _ rfl
              have zz := (HBZ.out.later hU2).frozen
              have y0 := (HBZ.out.later hU2).at 0 _ rfl
              have y1 := (HBZ.out.later hU2).at 1 _ rfl
              have y2 := (HBZ.out.later hU2).at 2 _ rfl
              have y3 := (HBZ.out.later hU2).at 3 _ rfl
              have y4 := (HBZ.out.later hU2).at 4 _ rfl)
 rw [HSP.out] at hB2
 have BF := Blk.setRow ((HBZ.out.later hU2).far (p := ⟨w.heap.size, 4, none⟩) (by simp) (.slice (some ⟨w.heap.size + 1 + 1, 0, none⟩) pl.length pl.length)) [.int .i64 sq, .int .i64 ti, .bool mk, .int .u8 ty, .slice (some ⟨w.heap.size + 1 + 1, 0, none⟩) pl.length pl.length] rfl
 have IN : IntsNew (w.heap.size + 1 + 1) w2 .u8 (some ⟨w.heap.size + 1 + 1, 0, none⟩) pl := ⟨zov hB2.out, fun _ b' off' e => by cases e; exact Nat.le_refl _⟩
 have R3 := (IntsNew.setRow (g := w.heap.size + 1) (n := w.heap.size + 1 + 1) (by omega) [.int .i64 sq, .int .i64 ti, .bool mk, .int .u8 ty, .slice (some ⟨w.heap.size + 1 + 1, 0, none⟩) pl.length pl.length] _ 0 (IN.setCell (p := ⟨w.heap.size, 4, none⟩) (by simp; omega) (.slice (some ⟨w.heap.size + 1 + 1, 0, none⟩) pl.length pl.length))).less (m := w.heap.size) (by omega)
 have UF := below_setRow (g := w.heap.size + 1) (by omega) [.int .i64 sq, .int .i64 ti, .bool mk, .int .u8 ty, .slice (some ⟨w.heap.size + 1 + 1, 0, none⟩) pl.length pl.length] _ 0 (zai (p := ⟨w.heap.size, 4, none⟩) (HUW.out.later hU2) (Nat.le_refl _) (.slice (some ⟨w.heap.size + 1 + 1, 0, none⟩) pl.length pl.length))
 simp only [setRow, Nat.zero_add, Nat.reduceAdd] at BF R3 UF
 exact bodyPost_ret (v := .agg #[.int .i64 sq, .int .i64 ti, .bool mk, .int .u8 ty, .slice (some ⟨w.heap.size + 1 + 1, 0, none⟩) pl.length pl.length]) (zcl Tryz.results107 rfl (run_loadVar_row (P := Tryz.prog) _ _ _ _ _ _ _ BF Tryz.underlying103 rfl (by kernel_rfl))) rfl ⟨_, _, rfl, R3, UF, Nat.le_refl _⟩
theorem zcr (sq ti : Int) (mk : Bool) (ty : Int) (A : Option Addr) (pl : List Int) (n c : Nat) (w : World) (B : Nat) (hB : B ≤ w.heap.size) (hA : IntsAt w B .u8 A pl) (hl : n ≤ 1000000) (hn : pl.length = n) : Calls Tryz.prog 107 #[.agg #[.int .i64 sq, .int .i64 ti, .bool mk, .int .u8 ty, .slice A n c]] w (MediaR sq ti mk ty pl w) := by
 subst hn
 by_cases h0 : pl.length = 0
 · obtain rfl := List.eq_nil_of_length_eq_zero h0
   exact zgb sq ti mk ty A c w
 · exact zfl sq ti mk ty A pl c w (hA.more hB) hl (by omega)
theorem zow (a0 s0 t0 y0 : Int) (m0 : Bool) (A0 : Option Addr) (n0 c0 : Nat) (g : Nat) (now : Int) (w : World) (hg : w.cell? ⟨g, 0, none⟩ = some (.int .i64 now)) (hlt : g < w.heap.size) : Calls Tryz.prog 148 #[.agg #[.int .i64 a0, .int .i64 s0, .int .i64 t0, .bool m0, .int .u8 y0, .slice A0 n0 c0], .pointer (some ⟨g, 0, none⟩)] w fun e w' => e = .returned (.bool (decide (now < a0))) ∧ Below w.heap.size w w' := by
 have hne : ¬g = w.heap.size := by omega
 go_enter Tryz.func148, Tryz.ntmps148
 go_wp2_with fail
 go_ret
 exact ⟨by first | rfl | simp, (Below.refl _ _).alloc (Nat.le_refl _) _⟩
def firstLate (now : Int) (q : List Jb.Wt) : Int := if (Jb.due now q).length = q.length then -1 else ((Jb.due now q).length : Int)
theorem zjx (now : Int) : ∀ q : List Jb.Wt, (∀ x ∈ q, x.at_ ≤ now) → Jb.due now q = q
 | [], _ => rfl
 | a :: q, h => by
   unfold Jb.due
   rw [List.takeWhile_cons, if_pos (by simpa using h a List.mem_cons_self)]
   have := zjx now q (fun x hx => h x (List.mem_cons_of_mem _ hx))
   unfold Jb.due at this
   rw [this]
theorem zqv (now : Int) : ∀ (q : List Jb.Wt) (k : Nat) (a : Jb.Wt), q[k]? = some a → (∀ x ∈ q.take k, x.at_ ≤ now) → now < a.at_ → (Jb.due now q).length = k ∧ k < q.length
 | [], k, a, h, _, _ => by simp at h
 | b :: q, 0, a, h, _, h2 => by
   simp at h
   subst h
   unfold Jb.due
   rw [List.takeWhile_cons, if_neg (by simpa using h2)]
   simp
 | b :: q, k + 1, a, h, h1, h2 => by
   have hb := h1 b (by simp)
   obtain ⟨e1, e2⟩ := zqv now q k a (by simpa using h) (fun x hx => h1 x (by simp; exact Or.inr hx)) h2
   unfold Jb.due at e1 ⊢
   rw [List.takeWhile_cons, if_pos (by simpa using hb)]
   simp [e1]
   omega
theorem zdg (A : Option Addr) (l : List TW) (n c : Nat) (g : Nat) (now : Int) (w : World) (hn : l.length = n) (hl : n ≤ 1000000) (hA : Wts w w.heap.size A l) (hg : w.cell? ⟨g, 0, none⟩ = some (.int .i64 now)) (hlt : g < w.heap.size) : Calls Tryz.prog 147 #[.slice A n c, .func (Fn.func 148) #[] #[.pointer (some ⟨g, 0, none⟩)]] w fun e w' => e = .returned (.int .i64 (firstLate now (l.map TW.w))) ∧ Below w.heap.size w w' := by
 subst hn
 have HA := H9 hA
 have HG := H9 hg
 obtain ⟨R, hR⟩ : ∃ R, R = firstLate now (l.map TW.w) := ⟨_, rfl⟩
 rw [← hR]
 have HR := H9 hR
 clear hA hg hR
 go_enter Tryz.func147, Tryz.ntmps147
 go_wp2_with fail
 go_loopg [8] l.length (fun gk i wr => ∃ k : Nat, gk + k = l.length ∧ i = .int .i64 k ∧ Hid (∀ x ∈ (l.map TW.w).take k, x.at_ ≤ now) ∧ Hid (Bel w wr))
 case atStart => exact ⟨0, rfl, rfl, H9 (fun x hx => by simp at hx), H9 (Bel.refl w)⟩
 case round =>
  obtain ⟨k, hgk, rfl, HT, U⟩ := hrel
  have hi0 : (0 : Int) ≤ (k : Int) := by omega
  by_cases hk : k < l.length
  rotate_left
  · obtain rfl : k = l.length := by omega
    have hi1 : (l.length : Int) ≤ (l.length : Int) := Int.le_refl _
    have hall := HT.out
    rw [List.take_of_length_le (by simp)] at hall
    have hv : R = -1 := by rw [HR.out]; unfold firstLate; rw [zjx now _ hall, if_pos rfl]
    subst hv
    go_wp2_with fail
    go_ret
    exact ⟨rfl, U.out⟩
  have hi1 : (k : Int) < (l.length : Int) := by omega
  obtain ⟨a, ha⟩ : ∃ a, l[k]? = some a := ⟨_, List.getElem?_eq_getElem hk⟩
  obtain ⟨b, off, rfl, hbB, e0, e1, e2, e3, e4, e5⟩ := zcj (HA.out.1.keep (fun p hp => U.out.cell hp)) ha
  have hcg := (U.out.cell (p := ⟨g, 0, none⟩) hlt).trans HG.out
  have hgl : g < wr.heap.size := Nat.lt_of_lt_of_le hlt U.out.size
  have k1 := zow a.w.at_ a.w.m.sq a.w.m.ti a.w.m.ty a.w.m.mrk a.B a.w.m.pl.length a.c g now wr hcg hgl
  have hm : (l.map TW.w)[k]? = some a.w := by rw [List.getElem?_map, ha]; rfl
  have HM := H9 hm
  have K1 := H9 k1
  clear ha hm k1
  by_cases hd : now < a.w.at_
  · have hb : decide (now < a.w.at_) = true := by simpa using hd
    obtain ⟨d1, d2⟩ := zqv now _ k a.w HM.out HT.out hd
    have hv : R = (k : Int) := by rw [HR.out]; unfold firstLate; rw [d1, if_neg (by omega)]
    subst hv
    rw [hb] at K1
    clear hd hb d1 d2
    go_wp2_with fail
    refine (K1.out).mono ?_
    rintro e w1 ⟨rfl, hb1⟩
    go_wp2_with fail
    go_ret
    exact ⟨rfl, U.out.later hb1⟩
  · have hb : decide (now < a.w.at_) = false := by simpa using hd
    rw [hb] at K1
    have HD := H9 hd
    clear hd hb
    go_wp2_with fail
    refine (K1.out).mono ?_
    rintro e w1 ⟨rfl, hb1⟩
    have U1 := H9 (U.out.later hb1)
    clear hb1
    go_wp2_with fail
    go_roundg (gk - 1)
    case measure => omega
    case rel =>
     refine ⟨k + 1, by omega, by go_num, H9 (fun x hx => ?_), U1⟩
     rw [List.take_add_one, HM.out] at hx
     rcases List.mem_append.1 hx with hx | hx
     · exact HT.out x hx
     · simp at hx
       subst hx
       have := HD.out
       omega
theorem zox (a0 s0 t0 y0 : Int) (m0 : Bool) (A0 : Option Addr) (n0 c0 : Nat) (g : Nat) (sq : Int) (w : World) (hg : w.cell? ⟨g, 0, none⟩ = some (.int .i64 sq)) (hlt : g < w.heap.size) : Calls Tryz.prog 103 #[.agg #[.int .i64 a0, .int .i64 s0, .int .i64 t0, .bool m0, .int .u8 y0, .slice A0 n0 c0], .pointer (some ⟨g, 0, none⟩)] w fun e w' => e = .returned (.bool (s0 == sq)) ∧ Below w.heap.size w w' := by
 have hne : ¬g = w.heap.size := by omega
 go_enter Tryz.func103, Tryz.ntmps103
 go_wp2_with fail
 go_ret
 exact ⟨by first | rfl | simp, (Below.refl _ _).alloc (Nat.le_refl _) _⟩
def AtLeast (b : Bool) (w : World) (e : Ending) (w' : World) : Prop := ∃ r : Int, e = .returned (.int .i64 r) ∧ decide (0 ≤ r) = b ∧ Below w.heap.size w w'
theorem zkv (A : Option Addr) (l : List TW) (n c : Nat) (g : Nat) (sq : Int) (w : World) (hn : l.length = n) (hl : n ≤ 1000000) (hA : Wts w w.heap.size A l) (hg : w.cell? ⟨g, 0, none⟩ = some (.int .i64 sq)) (hlt : g < w.heap.size) : Calls Tryz.prog 147 #[.slice A n c, .func (Fn.func 103) #[] #[.pointer (some ⟨g, 0, none⟩)]] w (AtLeast ((l.map TW.w).any fun x => x.m.sq == sq) w) := by
 subst hn
 have HA := H9 hA
 have HG := H9 hg
 obtain ⟨R, hR⟩ : ∃ R, R = (l.map TW.w).any fun x => x.m.sq == sq := ⟨_, rfl⟩
 rw [← hR]
 have HR := H9 hR
 clear hA hg hR
 go_enter Tryz.func147, Tryz.ntmps147
 go_wp2_with fail
 go_loopg [8] l.length (fun gk i wr => ∃ k : Nat, gk + k = l.length ∧ i = .int .i64 k ∧ Hid (R = ((l.map TW.w).drop k).any fun x => x.m.sq == sq) ∧ Hid (Bel w wr))
 case atStart => exact ⟨0, rfl, rfl, H9 (by rw [List.drop_zero]; exact HR.out), H9 (Bel.refl w)⟩
 case round =>
  clear HR
  obtain ⟨k, hgk, rfl, HT, U⟩ := hrel
  have hi0 : (0 : Int) ≤ (k : Int) := by omega
  by_cases hk : k < l.length
  rotate_left
  · obtain rfl : k = l.length := by omega
    have hi1 : (l.length : Int) ≤ (l.length : Int) := Int.le_refl _
    have hv : R = false := by rw [HT.out, List.drop_eq_nil_of_le (by simp)]; rfl
    subst hv
    go_wp2_with fail
    go_ret
    exact ⟨-1, rfl, rfl, U.out⟩
  have hi1 : (k : Int) < (l.length : Int) := by omega
  obtain ⟨a, ha⟩ : ∃ a, l[k]? = some a := ⟨_, List.getElem?_eq_getElem hk⟩
  obtain ⟨b, off, rfl, hbB, e0, e1, e2, e3, e4, e5⟩ := zcj (HA.out.1.keep (fun p hp => U.out.cell hp)) ha
  have hcg := (U.out.cell (p := ⟨g, 0, none⟩) hlt).trans HG.out
  have hgl : g < wr.heap.size := Nat.lt_of_lt_of_le hlt U.out.size
  have k1 := zox a.w.at_ a.w.m.sq a.w.m.ti a.w.m.ty a.w.m.mrk a.B a.w.m.pl.length a.c g sq wr hcg hgl
  have hd : (l.map TW.w).drop k = a.w :: (l.map TW.w).drop (k + 1) := by
   have hm : (l.map TW.w)[k]? = some a.w := by rw [List.getElem?_map, ha]; rfl
   obtain ⟨h1, h2⟩ := List.getElem?_eq_some_iff.1 hm
   rw [List.drop_eq_getElem_cons h1, h2]
  have HD := H9 hd
  have K1 := H9 k1
  clear ha hd k1
  cases hb : (a.w.m.sq == sq)
  · rw [hb] at K1
    have HN : Hid (R = ((l.map TW.w).drop (k + 1)).any fun x => x.m.sq == sq) := H9 (by rw [HT.out, HD.out, List.any_cons, hb, Bool.false_or])
    clear hb HT HD
    go_wp2_with fail
    refine (K1.out).mono ?_
    rintro e w1 ⟨rfl, hb1⟩
    have U1 := H9 (U.out.later hb1)
    clear hb1
    go_wp2_with fail
    go_roundg (gk - 1)
    case measure => omega
    case rel => exact ⟨k + 1, by omega, by go_num, HN, U1⟩
  · rw [hb] at K1
    have hv : R = true := by rw [HT.out, HD.out, List.any_cons, hb, Bool.true_or]
    subst hv
    clear hb HT HD
    go_wp2_with fail
    refine (K1.out).mono ?_
    rintro e w1 ⟨rfl, hb1⟩
    go_wp2_with fail
    go_ret
    exact ⟨(k : Int), rfl, by simp, U.out.later hb1⟩
theorem zav (A : Option Addr) (l : List TW) (n c : Nat) (g : Nat) (sq : Int) (w : World) (hn : l.length = n) (hl : n ≤ 1000000) (hA : Wts w w.heap.size A l) (hg : w.cell? ⟨g, 0, none⟩ = some (.int .i64 sq)) (hlt : g < w.heap.size) : Calls Tryz.prog 104 #[.slice A n c, .func (Fn.func 103) #[] #[.pointer (some ⟨g, 0, none⟩)]] w fun e w' => e = .returned (.bool ((l.map TW.w).any fun x => x.m.sq == sq)) ∧ Below w.heap.size w w' := by
 have k1 := H9 (zkv A l n c g sq w hn hl hA hg hlt)
 generalize ((l.map TW.w).any fun x => x.m.sq == sq) = R at *
 clear hA hg
 go_enter Tryz.func104, Tryz.ntmps104
 go_wp2_with fail
 refine k1.out.mono ?_
 rintro e w1 ⟨r, rfl, hr, hb⟩
 go_wp2_with fail
 go_ret
 first | exact ⟨rfl, hb⟩ | exact ⟨zic hr, hb⟩
theorem zmq : (Tryz.prog.info? 105).map (fun i => (i.zero, i.size, i.bytes)) = some (some (.agg #[.int .i64 0, .int .i64 0, .int .i64 0, .bool false, .int .u8 0, .slice none 0 0]), 6, 56) := by kernel_rfl
structure QOwn (w : World) (base : Nat) (A : Option Addr) (n c : Nat) (l : List TW) : Prop where
 len : l.length = n
 own : Owns w base 105 6 A n c (l.flatMap TW.row)
 pay : ∀ a ∈ l, IntsAt w w.heap.size .u8 a.B a.w.m.pl
 far : ∀ a ∈ l, 0 < a.w.m.pl.length → ∀ b off, a.B = some ⟨b, off, none⟩ → some b ≠ ownB A
 new : ∀ a ∈ l, 0 < a.w.m.pl.length → ∀ b off, a.B = some ⟨b, off, none⟩ → base ≤ b
 cap : ∀ a ∈ l, a.w.m.pl.length ≤ a.c
theorem QOwn.nil {w : World} {base : Nat} : QOwn w base none 0 0 [] := ⟨rfl, Owns.nil, (fun _ h => by cases h), (fun _ h => by cases h), (fun _ h => by cases h), (fun _ h => by cases h)⟩
theorem QOwn.below {w w' : World} {base n c : Nat} {A : Option Addr} {l : List TW} (h : QOwn w base A n c l) (hb : Below w.heap.size w w') : QOwn w' base A n c l :=
 ⟨h.len, h.own.below hb, fun a ha => (h.pay a ha).later hb, h.far, h.new, h.cap⟩
theorem QOwn.step {wr v1 v2 wn : World} {base k c cn : Nat} {A An : Option Addr} {l : List TW} {a : TW} (h : QOwn wr base A k c l) (hbs : base ≤ wr.heap.size) (hb : Below wr.heap.size wr v1) (hb2 : Below v1.heap.size v1 v2) (hg : v2.grownBy wn (ownB A))
 (qo : Owns wn base 105 6 An (k + 1) cn (l.flatMap TW.row ++ a.row)) (hat : ownB An = ownB A ∨ ∀ g, ownB An = some g → v2.heap.size ≤ g) (hI : IntsNew wr.heap.size v1 .u8 a.B a.w.m.pl) (hcp : a.w.m.pl.length ≤ a.c) : QOwn wn base An (k + 1) cn (l ++ [a]) := by
 have s1 := hb.size
 have s2 := hb2.size
 have s3 := hg.size
 have hA : ∀ g, ownB A = some g → g < wr.heap.size := fun g hg' => (h.own.block g hg').2
 have key : ∀ (x : TW), IntsAt v2 v2.heap.size .u8 x.B x.w.m.pl → (0 < x.w.m.pl.length → ∀ b off, x.B = some ⟨b, off, none⟩ → some b ≠ ownB A) → IntsAt wn wn.heap.size .u8 x.B x.w.m.pl := by
  intro x hx hf h0
  obtain ⟨b, off, e, hlt, hc⟩ := hx h0
  exact ⟨b, off, e, by omega, fun i hi => hg.cell (hc i hi) (hf h0 b off e)⟩
 have farN : ∀ b off, 0 < a.w.m.pl.length → a.B = some ⟨b, off, none⟩ → wr.heap.size ≤ b ∧ b < v1.heap.size := by
  intro b off h0 e
  refine ⟨hI.2 h0 b off e, ?_⟩
  obtain ⟨b', off', e', hlt, _⟩ := hI.1 h0
  rw [e] at e'
  injection e' with e'
  injection e' with e1 _
  omega
 have farO : ∀ x ∈ l, ∀ b off, 0 < x.w.m.pl.length → x.B = some ⟨b, off, none⟩ → b < wr.heap.size := by
  intro x hx b off h0 e
  obtain ⟨b', off', e', hlt, _⟩ := h.pay x hx h0
  rw [e] at e'
  injection e' with e'
  injection e' with e1 _
  omega
 refine ⟨by simp [h.len], by rw [List.flatMap_append]; simpa using qo, fun x hx => ?_, fun x hx h0 b off e => ?_, fun x hx h0 b off e => ?_, fun x hx => ?_⟩
 · rcases List.mem_append.1 hx with hx | hx
   · exact key x (((h.pay x hx).later hb).later hb2) (h.far x hx)
   · obtain rfl := List.mem_singleton.1 hx
     refine key x (hI.1.later hb2) (fun h0 b off e he => ?_)
     have := farN b off h0 e
     have := hA b he.symm
     omega
 · rcases List.mem_append.1 hx with hx | hx
   · rcases hat with e2 | e2
     · rw [e2]; exact h.far x hx h0 b off e
     · intro he
       have := farO x hx b off h0 e
       have := e2 b he.symm
       omega
   · obtain rfl := List.mem_singleton.1 hx
     have := farN b off h0 e
     rcases hat with e2 | e2
     · rw [e2]
       intro he
       have := hA b he.symm
       omega
     · intro he
       have := e2 b he.symm
       omega
 · rcases List.mem_append.1 hx with hx | hx
   · exact h.new x hx h0 b off e
   · obtain rfl := List.mem_singleton.1 hx
     have := farN b off h0 e
     omega
 · rcases List.mem_append.1 hx with hx | hx
   · exact h.cap x hx
   · obtain rfl := List.mem_singleton.1 hx
     exact hcp
theorem QOwn.wts {w : World} {base n c : Nat} {A : Option Addr} {l : List TW} (h : QOwn w base A n c l) : Wts w w.heap.size A l := by
 refine ⟨?_, h.pay⟩
 exact Owns.rows h.own h.len (fun a => rfl)
theorem zen {P : Program} {ops : Array Oper} {o : Oper} {a : Act} {w : World} {K : Act → World → Prop} {Q : Exit → Act → World → Prop} {E : Prop} (d : Tmp) (hgd : o.guard = none) (hd : o.dst = some d) (s x : Operand) (t : TypeId)
 (ho : o.op = .call { callee := .builtin .append, args := #[s, x], argTypes := #[t, t] })
 (base : Nat) (e : TypeId) (size bytes : Nat) (z : Value) (ht : P.underlying t = some (.slice e)) (hinfo : (P.info? e).map (fun i => (i.zero, i.size, i.bytes)) = some (some z, size, bytes))
 (hzs : z.cells.size = size) (hsz : 0 < size) (A : Option Addr) (n c : Nat) (xs : List Value) (hs : a.eval s = .slice A n c) (qo : Owns w base e size A n c xs)
 (g0 : Nat) (cs : List Value) (hl : cs.length = size) (h1 : ∀ u ∈ cs, u.oneCell' = true) (hx : a.eval x = .slice (some ⟨g0, 0, none⟩) 1 1) (hb : Blk w g0 e cs.toArray)
 (h63 : n + 1 ≤ maxLen) (hbytes : (n + 1) * bytes ≤ 140737488355328) (hbase : base ≤ w.heap.size)
 (h : ∀ (A' : Option Addr) (c' : Nat) (w' : World), Owns w' base e size A' (n + 1) c' (xs ++ cs) → w.grownBy w' (ownB A) → (ownB A' = ownB A ∨ ∀ g, ownB A' = some g → w.heap.size ≤ g) → K (a.put (some d) (.slice A' (n + 1) c')) w') :
 if Region.wanted o (yielded ops a.tmps) = true then Oper.wp P o a w K Q else E := by
 obtain ⟨i, hi, hz0, hz1, hz2⟩ := info_parts hinfo
 refine step_append_lies w hgd s x t ho base e i z size bytes ht hi hz0 hz1 hz2 hzs hsz _ n xs hs qo ⟨g0, 0, none⟩ 1 1 cs hx (by omega) ?_ h1 (by omega) h63 hbytes hbase _ rfl ?_
 · intro j u hu
   exact World.news_of_block hb j u (by simpa using hu)
 · intro g cap w' hown' hg hat hlt
   rw [zcu] at hg hat
   rw [hd]
   refine h _ _ w' hown' hg ?_
   rcases hat with e | e
   · exact .inl e.symm
   · refine .inr fun g' hg' => ?_
     injection hg' with hg'
     rw [← hg', e]; exact Nat.le_refl _
def QueueR (l : List TW) (w : World) (e : Ending) (w' : World) : Prop :=
 ∃ (A' : Option Addr) (c' : Nat) (l' : List TW), e = .returned (.slice A' l.length c') ∧ l'.map TW.w = l.map TW.w ∧ QOwn w' w.heap.size A' l.length c' l' ∧ Below w.heap.size w w'
theorem zgc (A : Option Addr) (l : List TW) (n c : Nat) (w : World) (hn : l.length = n) (hl : n ≤ 100000) (hA : Wts w w.heap.size A l) (hp : ∀ a ∈ l, a.w.m.pl.length ≤ 1000000) : Calls Tryz.prog 149 #[.slice A n c] w (QueueR l w) := by
 subst hn
 have HA := H9 hA
 have HP := H9 hp
 clear hA hp
 go_enter Tryz.func149, Tryz.ntmps149
 go_wp2_with fail
 go_loopg [3, 8] l.length (fun gk s3 i wr => ∃ (k : Nat) (A' : Option Addr) (c' : Nat) (l' : List TW), gk + k = l.length ∧ s3 = .slice A' k c' ∧ i = .int .i64 k ∧ Hid (l'.map TW.w = (l.map TW.w).take k) ∧ Hid (QOwn wr w.heap.size A' k c' l') ∧ Hid (Bel w wr))
 case atStart => exact ⟨0, none, 0, [], rfl, rfl, rfl, H9 rfl, H9 QOwn.nil, H9 (Bel.refl w)⟩
 case round =>
  obtain ⟨k, A', c', l', hgk, rfl, rfl, HL, HO, U⟩ := hrel
  have hi0 : (0 : Int) ≤ (k : Int) := by omega
  by_cases hk : k < l.length
  rotate_left
  · obtain rfl : k = l.length := by omega
    have hi1 : (l.length : Int) ≤ (l.length : Int) := Int.le_refl _
    go_wp2_with fail
    go_ret
    exact ⟨A', c', l', rfl, by rw [HL.out, List.take_of_length_le (by simp)], HO.out, U.out⟩
  have hi1 : (k : Int) < (l.length : Int) := by omega
  obtain ⟨a, ha⟩ : ∃ a, l[k]? = some a := ⟨_, List.getElem?_eq_getElem hk⟩
  obtain ⟨b, off, rfl, hbB, e0, e1, e2, e3, e4, e5⟩ := zcj (HA.out.1.keep (fun p hp => U.out.cell hp)) ha
  have hpa := HP.out a (List.mem_of_getElem? ha)
  have hia := (HA.out.2 a (List.mem_of_getElem? ha)).keep (w' := wr) (fun p hp => U.out.cell hp)
  have hm : (l.map TW.w)[k]? = some a.w := by rw [List.getElem?_map, ha]; rfl
  have HM := H9 hm
  obtain ⟨⟨at0, ⟨sq0, ti0, mk0, ty0, pl0⟩⟩, B0, c0⟩ := a
  simp only at e0 e1 e2 e3 e4 e5 hpa hia HM
  have BX := H9 ((Blk.new wr 105 #[.int .i64 at0, .int .i64 sq0, .int .i64 ti0, .bool mk0, .int .u8 ty0, .slice B0 pl0.length c0]).drew)
  have UX := H9 (((Bel.refl wr).push (.cells #[.int .i64 at0, .int .i64 sq0, .int .i64 ti0, .bool mk0, .int .u8 ty0, .slice B0 pl0.length c0] 105)).drewN 1)
  have hbs := U.out.size
  have IA := H9 hia
  clear ha hm hia
  go_wp2_with fail
  go_region_law (first
   | (refine zen 20 (by rfl) (by rfl) _ _ 38 (by rfl) w.heap.size 105 6 56 _ Tryz.underlying38 zmq rfl (by decide) A' k c' _ (by rfl) (Owns.alloc HO2 _) v1.heap.size [.int .i64 at0, .int .i64 sq0, .int .i64 ti0, .bool mk0, .int .u8 ty0, .slice A9 pl0.length c9] rfl (by simp [Value.oneCell']) (by rfl) (Blk.new v1 _ _) (by unfold maxLen; omega) (by omega) (by simp; omega) ?_; intro An cn wn qo hgr hat)
   | (go_simp; go_at_call 107; refine (zcr sq0 ti0 mk0 ty0 B0 pl0 pl0.length c0 _ w.heap.size (by simp; omega) ((IA.out.alloc hbs _).drew) hpa rfl).mono ?_; rintro e v1 ⟨A9, c9, rfl, hI9, hb9, hcp9⟩; have HO2 := ((HO.out.own.alloc _).drew).below hb9; have b0 := (BX.out.later hb9).at 0 _ rfl; have hs9 := hb9.size; have hs9' : w.heap.size ≤ v1.heap.size := by simp at hs9; omega))
  all_goals
   go_wp2_with fail
   go_roundg (gk - 1)
   case measure => omega
   case rel =>
    have UV : Below wr.heap.size wr v1 := UX.out.later hb9
    have hI8 := hI9.less (m := wr.heap.size) (by simp)
    have hb2 := (Below.refl v1.heap.size v1).alloc (Nat.le_refl _) (.cells #[.int .i64 at0, .int .i64 sq0, .int .i64 ti0, .bool mk0, .int .u8 ty0, .slice A9 pl0.length c9] 105)
    refine ⟨k + 1, An, cn, l' ++ [⟨⟨at0, ⟨sq0, ti0, mk0, ty0, pl0⟩⟩, A9, c9⟩], by omega, rfl, by go_num, H9 ?_, H9 ?_, H9 ?_⟩
    · rw [List.map_append, HL.out, List.take_add_one, HM.out]; rfl
    · exact HO.out.step hbs UV hb2 hgr (by simpa [TW.row] using qo) hat hI8 hcp9
    · exact (((U.out.later UV).later hb2).grown hgr (Nat.le_trans hs9' hb2.size) fun g e => (HO.out.own.block g e).1)
end Go.Proofs.YtahbecinkciahaaGreat
namespace Go.Proofs.YtahbecinkciahaaGreat
open Go.RowKit
structure Chg (S : List Nat) (w w' : World) : Prop where
 os : w'.os = w.os
 tape : w'.tape = w.tape
 output : w'.output = w.output
 size : w.heap.size ≤ w'.heap.size
 block : ∀ k, k < w.heap.size → k ∉ S → w'.heap[k]? = w.heap[k]?
section
variable {S T : List Nat} {w w' w'' : World} {g : Nat}
theorem Chg.refl (S : List Nat) (w : World) : Chg S w w := ⟨rfl, rfl, rfl, Nat.le_refl _, fun _ _ _ => rfl⟩
theorem Chg.trans (h : Chg S w w') (h2 : Chg S w' w'') : Chg S w w'' := ⟨h2.os.trans h.os, h2.tape.trans h.tape, h2.output.trans h.output, Nat.le_trans h.size h2.size, fun k hk hn => (h2.block k (Nat.lt_of_lt_of_le hk h.size) hn).trans (h.block k hk hn)⟩
theorem Chg.of_below (hb : Below w.heap.size w w') : Chg S w w' := ⟨hb.os, hb.tape, hb.output, hb.size, fun k hk _ => hb.block k hk⟩
theorem Chg.of_only (h : OnlyB g w w') (hg : g ∈ S) : Chg S w w' := ⟨h.1.os, h.1.tape, h.1.output, h.1.size, fun k hk hn => h.1.block k hk (fun e => hn (by injection e with e; rw [e]; exact hg))⟩
theorem Chg.of_grown {row : Option Nat} (h : w.grownBy w' row) (hr : ∀ k, row = some k → k ∈ S ∨ w.heap.size ≤ k) : Chg S w w' := ⟨h.os, h.tape, h.output, h.size, fun k hk hn => h.block k hk (fun e => by rcases hr k e.symm with h1 | h1; exact hn h1; omega)⟩
theorem Chg.more (h : Chg S w w') (hs : ∀ k ∈ S, k ∈ T) : Chg T w w' := ⟨h.os, h.tape, h.output, h.size, fun k hk hn => h.block k hk (fun e => hn (hs k e))⟩
theorem Chg.less (h : Chg (g :: S) w w') (hg : w.heap.size ≤ g) : Chg S w w' := ⟨h.os, h.tape, h.output, h.size, fun k hk hn => h.block k hk (fun e => by rcases List.mem_cons.1 e with e | e; omega; exact hn e)⟩
theorem Chg.alloc (S : List Nat) (w : World) (o : Obj) : Chg S w (w.alloc o) := Chg.of_below ((Below.refl _ _).alloc (Nat.le_refl _) _)
theorem Chg.push (h : Chg S w w') (o : Obj) : Chg S w (w'.alloc o) := h.trans (Chg.alloc S w' o)
theorem Chg.drew (h : Chg S w w') : Chg S w w'.drew := ⟨h.os, h.tape, h.output, h.size, h.block⟩
theorem Chg.drewN (h : Chg S w w') (n : Nat) : Chg S w (w'.drewN n) := ⟨h.os, h.tape, h.output, h.size, h.block⟩
theorem Chg.below (h : Chg [] w w') : Below w.heap.size w w' := ⟨h.os, h.tape, h.output, h.size, fun k hk => h.block k hk (by simp)⟩
theorem Chg.bel {W : World} (h : Chg S w w') (hb : Bel W w) (hs : ∀ k ∈ S, W.heap.size ≤ k) : Bel W w' :=
 ⟨h.os.trans hb.os, h.tape.trans hb.tape, h.output.trans hb.output, Nat.le_trans hb.size h.size, fun k hk => (h.block k (Nat.lt_of_lt_of_le hk hb.size) (fun e => by have := hs k e; omega)).trans (hb.block k hk)⟩
theorem Chg.blk {t : TypeId} {cs : Array Value} (h : Chg S w w') (hb : Blk w g t cs) (hg : g ∉ S) : Blk w' g t cs := (h.block g hb.lt hg).trans hb
theorem Chg.cell (h : Chg S w w') {p : Addr} (hlt : p.block < w.heap.size) (hp : p.block ∉ S) : w'.cell? p = w.cell? p := by unfold World.cell?; rw [h.block p.block hlt hp]
theorem Chg.ints {k : IntKind} {A : Option Addr} {zs : List Int} (h : Chg S w w') (hi : IntsAt w w.heap.size k A zs) (hn : 0 < zs.length → ∀ b off, A = some ⟨b, off, none⟩ → b ∉ S) : IntsAt w' w'.heap.size k A zs := fun h0 => by
 obtain ⟨b, off, e, hlt, hc⟩ := hi h0
 exact ⟨b, off, e, Nat.lt_of_lt_of_le hlt h.size, fun i hi' => (h.cell (p := ⟨b, off + i, none⟩) hlt (hn h0 b off e)).trans (hc i hi')⟩
theorem Chg.owns {base size n c : Nat} {e : TypeId} {A : Option Addr} {xs : List Value} (h : Chg S w w') (ho : Owns w base e size A n c xs) (hn : ∀ k, ownB A = some k → k ∉ S) : Owns w' base e size A n c xs :=
 ho.of_block (fun k hk => h.block k (ho.block k hk).2 (hn k hk))
end
def IntsAv (W : World) (S : List Nat) (k : IntKind) (A : Option Addr) (zs : List Int) : Prop := IntsAt W W.heap.size k A zs ∧ (0 < zs.length → ∀ b off, A = some ⟨b, off, none⟩ → b ∉ S)
section
variable {S T : List Nat} {W W' : World} {k : IntKind} {A : Option Addr} {zs : List Int}
theorem IntsAv.nil : IntsAv W S k A [] := ⟨IntsAt.nil, fun h => absurd h (by simp)⟩
theorem IntsAv.chg (h : IntsAv W S k A zs) (hc : Chg T W W') (hs : ∀ x ∈ T, x ∈ S) : IntsAv W' S k A zs := ⟨hc.ints h.1 (fun h0 b off e hb => h.2 h0 b off e (hs b hb)), h.2⟩
theorem IntsAv.add (h : IntsAv W S k A zs) {g : Nat} (hg : W.heap.size ≤ g) : IntsAv W (g :: S) k A zs := ⟨h.1, fun h0 b off e hb => by
 rcases List.mem_cons.1 hb with e2 | hb
 · obtain ⟨b', off', e', hlt, _⟩ := h.1 h0
   rw [e] at e'; injection e' with e'; injection e' with e1 _; omega
 · exact h.2 h0 b off e hb⟩
theorem IntsAv.of_new {n : Nat} (h : IntsNew n W k A zs) (hs : ∀ x ∈ S, x < n) : IntsAv W S k A zs := ⟨h.1, fun h0 b off e hb => by have := h.2 h0 b off e; have := hs b hb; omega⟩
end
theorem IntsAt.set_ne {w : World} {B : Nat} {k : IntKind} {A : Option Addr} {zs : List Int} (h : IntsAt w B k A zs) {p : Addr} {v0 : Value} (hc : w.cell? p = some v0) (hk : ∀ z, v0 ≠ .int k z) (u : Value) : IntsAt (w.setCell p u) B k A zs := fun h0 => by
 obtain ⟨b, off, e, hlt, qc⟩ := h h0
 refine ⟨b, off, e, hlt, fun i hi => ?_⟩
 rw [World.cell?_setCell_other w p ⟨b, off + i, none⟩ u (fun e2 => ?_)]
 · exact qc i hi
 · have := qc i hi
   first
    | (rw [e2, hc] at this; injection this with this; exact hk _ this)
    | (rw [← e2, hc] at this; injection this with this; exact hk _ this)
structure QAv (W : World) (S : List Nat) (A : Option Addr) (l : List TW) : Prop where
 wts : Wts W W.heap.size A l
 row : 0 < l.length → ∀ b off, A = some ⟨b, off, none⟩ → b ∉ S
 pay : ∀ a ∈ l, 0 < a.w.m.pl.length → ∀ b off, a.B = some ⟨b, off, none⟩ → b ∉ S
section
variable {S T : List Nat} {W W' : World} {A : Option Addr} {l : List TW}
theorem QAv.nil : QAv W S A [] := ⟨⟨RowsAt.nil, fun _ h => by cases h⟩, fun h => absurd h (by simp), fun _ h => by cases h⟩
theorem QAv.chg (h : QAv W S A l) (hc : Chg T W W') (hs : ∀ x ∈ T, x ∈ S) : QAv W' S A l := by
 refine ⟨⟨fun h0 => ?_, fun a ha => hc.ints (h.wts.2 a ha) (fun h0 b off e hb => h.pay a ha h0 b off e (hs b hb))⟩, h.row, h.pay⟩
 obtain ⟨b, off, e, hlt, qc⟩ := h.wts.1 h0
 exact ⟨b, off, e, Nat.lt_of_lt_of_le hlt hc.size, fun i a ha j v hv => (hc.cell (p := ⟨b, off + i * 6 + j, none⟩) hlt (fun hb => h.row h0 b off e (hs b hb))).trans (qc i a ha j v hv)⟩
theorem QAv.later (h : QAv W S A l) (hb : Below W.heap.size W W') : QAv W' S A l := h.chg (T := []) (Chg.of_below hb) (by simp)
theorem QAv.add (h : QAv W S A l) {g : Nat} (hg : W.heap.size ≤ g) : QAv W (g :: S) A l := by
 refine ⟨h.wts, fun h0 b off e hb => ?_, fun a ha h0 b off e hb => ?_⟩
 · rcases List.mem_cons.1 hb with e2 | hb
   · obtain ⟨b', off', e', hlt, _⟩ := h.wts.1 h0
     rw [e] at e'; injection e' with e'; injection e' with e1 _; omega
   · exact h.row h0 b off e hb
 · rcases List.mem_cons.1 hb with e2 | hb
   · obtain ⟨b', off', e', hlt, _⟩ := h.wts.2 a ha h0
     rw [e] at e'; injection e' with e'; injection e' with e1 _; omega
   · exact h.pay a ha h0 b off e hb
theorem QAv.of_own {base n c : Nat} (h : QOwn W base A n c l) (hs : ∀ x ∈ S, x < base) : QAv W S A l := by
 refine ⟨h.wts, fun h0 b off e hb => ?_, fun a ha h0 b off e hb => ?_⟩
 · have h1 := (h.own.block b (by rw [e]; rfl)).1
   have := hs b hb
   omega
 · have h1 := h.new a ha h0 b off e
   have := hs b hb
   omega
end
structure PM (W : World) (S : List Nat) (g : Nat) (p : Sb.Pt) (A : Option Addr) (n c : Nat) (l : List TW) : Prop where
 box : PB W g p A n c
 q : l.map TW.w = p.jt.q
 len : l.length = n
 cap : n ≤ c
 cm : c ≤ maxLen
 qa : QAv W S A l
section
variable {S T : List Nat} {W W' : World} {g n c : Nat} {p p' : Sb.Pt} {A : Option Addr} {l : List TW}
theorem PM.later (h : PM W S g p A n c l) (hb : Below W.heap.size W W') : PM W' S g p A n c l := ⟨h.box.later hb, h.q, h.len, h.cap, h.cm, h.qa.later hb⟩
theorem PM.push (h : PM W S g p A n c l) (o : Obj) : PM (W.alloc o) S g p A n c l := h.later ((Below.refl _ _).alloc (Nat.le_refl _) _)
theorem PM.chg (h : PM W S g p A n c l) (hc : Chg T W W') (hs : ∀ x ∈ T, x ∈ S) (hg : g ∉ T) : PM W' S g p A n c l := ⟨hc.blk h.box hg, h.q, h.len, h.cap, h.cm, h.qa.chg hc hs⟩
theorem PM.add (h : PM W S g p A n c l) {x : Nat} (hx : W.heap.size ≤ x) : PM W (x :: S) g p A n c l := ⟨h.box, h.q, h.len, h.cap, h.cm, h.qa.add hx⟩
theorem PM.set (h : PM W S g p A n c l) (hg : g ∈ S) (i : Nat) (v : Value) (p' : Sb.Pt) (hp : (PL p A n c).set i v = PL p' A n c) (hj : p'.jt.q = p.jt.q) : PM (W.setCell ⟨g, i, none⟩ v) S g p' A n c l := by
 refine ⟨?_, h.q.trans hj.symm, h.len, h.cap, h.cm, h.qa.chg (Chg.of_only (OnlyB.setCell W g i v) (S := S) hg) (fun _ h => h)⟩
 have := Blk.set_ h.box i v
 unfold PB PA
 rw [← hp]
 unfold PA at this
 simpa using this
theorem PM.over (h : PM W S g p A n c l) (hg : g ∈ S) (ho : OnlyB g W W') (p' : Sb.Pt) (hb : PB W' g p' A n c) (hj : p'.jt.q = p.jt.q) : PM W' S g p' A n c l :=
 ⟨hb, h.q.trans hj.symm, h.len, h.cap, h.cm, h.qa.chg (Chg.of_only ho (S := S) hg) (fun _ h => h)⟩
end
end Go.Proofs.YtahbecinkciahaaGreat
namespace Go.Proofs.YtahbecinkciahaaGreat
attribute [local go_sem ↓] zac zad
attribute [local go_sem] zab zag
open Go.RowKit
theorem zmr : (Tryz.prog.info? 51).map (fun i => (i.zero, i.size, i.bytes)) = some (some (.agg #[.bool false, .int .u8 0, .int .u16 0, .int .u32 0, .int .u32 0, .slice none 0 0, .bool false, .int .u16 0, .slice none 0 0, .slice none 0 0, .int .i64 0]), 11, 104) := by kernel_rfl
theorem zqw (n : Int) : IntKind.u16.wrap n = n % 65536 := by simp [IntKind.wrap, IntKind.bits, IntKind.signed]
theorem zqx (n : Int) : IntKind.u32.wrap n = n % 4294967296 := by simp [IntKind.wrap, IntKind.bits, IntKind.signed]
theorem OnlyB.owns_lt {w w' : World} {g base size n c : Nat} {e : TypeId} {A : Option Addr} {xs : List Value} (h : OnlyB g w w') (ho : Owns w base e size A n c xs) (hg : g < base) : Owns w' base e size A n c xs := h.owns ho hg
def pktRow (k : Sb.Pkt) (B : Option Addr) (c : Nat) : List Value := [.bool k.mrk, .int .u8 k.ty, .int .u16 k.sq, .int .u32 k.ti, .int .u32 k.src, .slice none 0 0, .bool false, .int .u16 0, .slice none 0 0, .slice B k.pl.length c, .int .i64 0]
def EmitR (S : List Nat) (g gl : Nat) (p : Sb.Pt) (A : Option Addr) (n c : Nat) (l : List TW) (kind ti : Int) (mrk : Bool) (PA1 : Option Addr) (pl : List Int) (plc : Nat) (w : World) (e : Ending) (w' : World) : Prop :=
 e = .returned (.tuple #[]) ∧ ∃ (A' : Option Addr) (c' : Nat), PM w' S g (Sb.emit p kind ti mrk pl).1 A n c l ∧ Blk w' gl 69 #[.slice A' 1 c'] ∧ Owns w' w.heap.size 51 11 A' 1 c' (pktRow (Sb.emit p kind ti mrk pl).2 PA1 plc) ∧ Chg [g, gl] w w'
theorem zgd (S : List Nat) (g gl : Nat) (p : Sb.Pt) (hw : p.wf) (A : Option Addr) (n c : Nat) (l : List TW) (kind ti : Int) (mrk : Bool) (PA1 : Option Addr) (pl : List Int) (plc : Nat) (w : World) (h : PM w S g p A n c l) (hg : g ∈ S) (hgl : gl ∈ S) (hne : g ≠ gl) (HL : Blk w gl 69 #[.slice none 0 0]) (hpl : pl.length ≤ 100000) : Calls Tryz.prog 71 #[.int .u8 kind, .int .u32 ti, .bool mrk, .slice PA1 pl.length plc, .pointer (some ⟨gl, 0, none⟩), .pointer (some ⟨g, 0, none⟩)] w (EmitR S g gl p A n c l kind ti mrk PA1 pl plc w) := by
 have H := H9 h
 have HL := H9 HL
 have s0 := hw.seq
 have s1 := hw.pk
 have s2 := hw.oc
 clear h
 go_enter Tryz.func71, Tryz.ntmps71
 have x1 := H.out.box.cell 1 _ rfl
 have x2 := H.out.box.cell 2 _ rfl
 have l0 := HL.out.at 0 _ rfl
 have lz := HL.out.frozen 0
 have hlt := HL.out.lt
 have hlg := Blk.lt H.out.box
 go_upto_region 1 with (at_builtin; go_loud (refine zcc (w0 := w) rfl _ _ 69 rfl w.heap.size 51 11 104 _ Tryz.underlying69 zmr rfl (by decide) none 0 0 [] rfl Owns.nil [.bool mrk, .int .u8 kind, .int .u16 p.seq, .int .u32 ti, .int .u32 p.src, .slice none 0 0, .bool false, .int .u16 0, .slice none 0 0, .slice PA1 pl.length plc, .int .i64 0] rfl (by simp [Value.oneCell']) rfl (by unfold maxLen; omega) (by omega) (Nat.le_refl _) ?_); intro A9 c9 v1 qo hgr hat; have BY := HL.out.grown hgr (by simp [ownB]); have y0 := BY.at 0 _ rfl; have yz := BY.frozen 0)
 obtain ⟨V1, hV1⟩ : ∃ W, W = v1.setCell ⟨gl, 0, none⟩ (.slice A9 1 c9) := ⟨_, rfl⟩
 rw [← hV1]
 have OV : OnlyB gl v1 V1 := by rw [hV1]; exact OnlyB.setCell _ _ _ _
 have BL := H9 (show Blk V1 gl 69 #[.slice A9 1 c9] by rw [hV1]; exact BY.set_ 0 _)
 have C1 : Chg [gl] w V1 := (Chg.of_grown hgr (by simp [ownB])).trans (Chg.of_only OV (by simp))
 have HO := H9 (OV.owns (by simpa using qo) hlt)
 replace H := H9 (H.out.chg C1 (by simpa using hgl) (by simpa using hne))
 replace C1 := H9 (C1.more (T := [g, gl]) (by simp))
 clear hV1 OV BY y0 yz qo hgr hat l0 lz x1 x2 HL
 have ew : IntKind.u32.wrap (pl.length : Int) = (pl.length : Int) := by rw [zqx]; omega
 have xc := H.out.box.cell 2 _ rfl
 have xz := Blk.frozen H.out.box 2
 go_upto_region 2 with fail
 obtain ⟨V2, hV⟩ : ∃ W, W = V1.setCell ⟨g, 2, none⟩ (.int .u16 (IntKind.u16.wrap (p.seq + 1))) := ⟨_, rfl⟩
 rw [← hV]
 rw [zqw] at hV
 replace H := H9 (show PM V2 S g { p with seq := (p.seq + 1) % 65536 } A n c l by rw [hV]; exact H.out.set hg 2 _ _ rfl rfl)
 have OV : OnlyB g V1 V2 := by rw [hV]; exact OnlyB.setCell _ _ _ _
 replace BL := H9 (OV.blk BL.out (fun e => hne e.symm))
 replace HO := H9 (OV.owns_lt HO.out hlg)
 replace C1 := H9 (C1.out.trans (Chg.of_only OV (by simp)))
 clear hV OV xc xz
 have xc := H.out.box.cell 46 _ rfl
 have xz := Blk.frozen H.out.box 46
 go_upto_region 3 with fail
 obtain ⟨V3, hV⟩ : ∃ W, W = V2.setCell ⟨g, 46, none⟩ (.int .u32 ((p.pk + 1) % 4294967296)) := ⟨_, rfl⟩
 rw [← hV]
 replace H := H9 (show PM V3 S g { p with seq := (p.seq + 1) % 65536, pk := (p.pk + 1) % 4294967296 } A n c l by rw [hV]; exact H.out.set hg 46 _ _ rfl rfl)
 have OV : OnlyB g V2 V3 := by rw [hV]; exact OnlyB.setCell _ _ _ _
 replace BL := H9 (OV.blk BL.out (fun e => hne e.symm))
 replace HO := H9 (OV.owns_lt HO.out hlg)
 replace C1 := H9 (C1.out.trans (Chg.of_only OV (by simp)))
 clear hV OV xc xz
 have xc := H.out.box.cell 47 _ rfl
 have xz := Blk.frozen H.out.box 47
 go_wp2_with fail
 obtain ⟨V4, hV⟩ : ∃ W, W = V3.setCell ⟨g, 47, none⟩ (.int .u32 ((p.oc + (pl.length : Int)) % 4294967296)) := ⟨_, rfl⟩
 rw [← hV]
 replace H := H9 (show PM V4 S g (Sb.emit p kind ti mrk pl).1 A n c l by rw [hV]; exact H.out.set hg 47 _ _ rfl rfl)
 have OV : OnlyB g V3 V4 := by rw [hV]; exact OnlyB.setCell _ _ _ _
 replace BL := H9 (OV.blk BL.out (fun e => hne e.symm))
 replace HO := H9 (OV.owns_lt HO.out hlg)
 replace C1 := H9 (C1.out.trans (Chg.of_only OV (by simp)))
 clear hV OV xc xz
 go_end0
 exact ⟨rfl, A9, c9, H.out, BL.out, HO.out, C1.out⟩
theorem zoy : (Tryz.prog.info? 105).map (fun i => (i.zero, i.size, i.bytes)) = some (some (.agg #[.int .i64 0, .int .i64 0, .int .i64 0, .bool false, .int .u8 0, .slice none 0 0]), 6, 56) := by kernel_rfl
theorem zoz : (Tryz.prog.info? 5).map (fun i => (i.zero, i.size, i.bytes)) = some (some (.int .u8 0), 1, 1) := by kernel_rfl
theorem QOwn.only {w w' : World} {g base n c : Nat} {A : Option Addr} {l : List TW} (h : QOwn w base A n c l) (ho : OnlyB g w w') (hg : g < base) : QOwn w' base A n c l :=
 ⟨h.len, ho.owns h.own hg, fun a ha h0 => by
  obtain ⟨b, off, e, hlt, hc⟩ := h.pay a ha h0
  have := h.new a ha h0 b off e
  exact ⟨b, off, e, by rw [ho.2]; exact hlt, fun i hi => (ho.cell (show b ≠ g by omega)).trans (hc i hi)⟩, h.far, h.new, h.cap⟩
def CopyR (s : Jb.Jt) (l : List TW) (w : World) (e : Ending) (w' : World) : Prop :=
 ∃ (A' : Option Addr) (c' : Nat) (l' : List TW), e = .returned (.agg (JW s A' l.length c').toArray) ∧ l'.map TW.w = l.map TW.w ∧ QOwn w' (w.heap.size + 2) A' l.length c' l' ∧ Below w.heap.size w w'
theorem zdd (s : Jb.Jt) (A : Option Addr) (l : List TW) (n c : Nat) (w : World) (hn : l.length = n) (hl : n ≤ 100000) (hA : Wts w w.heap.size A l) (hp : ∀ a ∈ l, a.w.m.pl.length ≤ 1000000) : Calls Tryz.prog 60 #[.agg #[.int .i64 s.least, .int .i64 s.most, .int .i64 s.now, .bool s.on, .int .i64 s.zero, .int .i64 s.first, .int .i64 s.high, .int .i64 s.done, .int .i64 s.spread, .int .i64 s.trans, .slice A n c, .int .i64 s.late, .int .i64 s.twice, .int .i64 s.played]] w (CopyR s l w) := by
 subst hn
 have HA := H9 hA
 have HP := H9 hp
 clear hA hp
 have BS := H9 ((Blk.new w 40 (JW s A l.length c).toArray).push (.cells (JW Jb.Jt.none none 0 0).toArray 40))
 have BR := H9 (Blk.new1 w (.cells (JW s A l.length c).toArray 40) 40 (JW Jb.Jt.none none 0 0).toArray)
 have U0 := H9 (((Bel.refl w).push (.cells (JW s A l.length c).toArray 40)).push (.cells (JW Jb.Jt.none none 0 0).toArray 40))
 go_enter Tryz.func60, Tryz.ntmps60
 go_upto_region 1 with fail
 obtain ⟨W0, hW0⟩ : ∃ W, W = (w.alloc (Obj.cells #[.int .i64 s.least, .int .i64 s.most, .int .i64 s.now, .bool s.on, .int .i64 s.zero, .int .i64 s.first, .int .i64 s.high, .int .i64 s.done, .int .i64 s.spread, .int .i64 s.trans, .slice A l.length c, .int .i64 s.late, .int .i64 s.twice, .int .i64 s.played] 40)).alloc (Obj.cells (JW Jb.Jt.none none 0 0).toArray 40) := ⟨_, rfl⟩
 change Code.wp _ _ _ _ ((w.alloc (Obj.cells #[.int .i64 s.least, .int .i64 s.most, .int .i64 s.now, .bool s.on, .int .i64 s.zero, .int .i64 s.first, .int .i64 s.high, .int .i64 s.done, .int .i64 s.spread, .int .i64 s.trans, .slice A l.length c, .int .i64 s.late, .int .i64 s.twice, .int .i64 s.played] 40)).alloc (Obj.cells (JW Jb.Jt.none none 0 0).toArray 40))
 rw [← hW0]
 change Hid (Blk ((w.alloc (Obj.cells #[.int .i64 s.least, .int .i64 s.most, .int .i64 s.now, .bool s.on, .int .i64 s.zero, .int .i64 s.first, .int .i64 s.high, .int .i64 s.done, .int .i64 s.spread, .int .i64 s.trans, .slice A l.length c, .int .i64 s.late, .int .i64 s.twice, .int .i64 s.played] 40)).alloc (Obj.cells (JW Jb.Jt.none none 0 0).toArray 40)) _ _ _) at BS BR
 change Hid (Bel w ((w.alloc (Obj.cells #[.int .i64 s.least, .int .i64 s.most, .int .i64 s.now, .bool s.on, .int .i64 s.zero, .int .i64 s.first, .int .i64 s.high, .int .i64 s.done, .int .i64 s.spread, .int .i64 s.trans, .slice A l.length c, .int .i64 s.late, .int .i64 s.twice, .int .i64 s.played] 40)).alloc (Obj.cells (JW Jb.Jt.none none 0 0).toArray 40))) at U0
 rw [← hW0] at BS BR U0
 clear hW0
 have x10 := BS.out.at 10 (.slice A l.length c) rfl
 go_wp2_with fail
 go_loopg [3, 9] l.length (fun gk s3 i wr => ∃ (k : Nat) (A' : Option Addr) (c' : Nat) (l' : List TW), gk + k = l.length ∧ s3 = .slice A' k c' ∧ i = .int .i64 k ∧ Hid (l'.map TW.w = (l.map TW.w).take k) ∧ Hid (QOwn wr (w.heap.size + 2) A' k c' l') ∧ Hid (Blk wr w.heap.size 40 (JW s A l.length c).toArray) ∧ Hid (Blk wr (w.heap.size + 1) 40 (JW Jb.Jt.none none 0 0).toArray) ∧ Hid (Bel w wr))
 case atStart => exact ⟨0, none, 0, [], rfl, rfl, rfl, H9 rfl, H9 QOwn.nil, BS, BR, U0⟩
 case round =>
  obtain ⟨k, A', c', l', hgk, rfl, rfl, HL, HO, BS, BR, U⟩ := hrel
  have hi0 : (0 : Int) ≤ (k : Int) := by omega
  have hl2 := BR.out.lt
  by_cases hk : k < l.length
  rotate_left
  · obtain rfl : k = l.length := by omega
    have hi1 : (l.length : Int) ≤ (l.length : Int) := Int.le_refl _
    have x10 := BS.out.at 10 (.slice A l.length c) rfl
    have fz := BS.out.frozen 10
    go_upto_region 9 with fail
    obtain ⟨V, hV⟩ : ∃ W, W = wr.setCell ⟨w.heap.size, 10, none⟩ (.slice A' l.length c') := ⟨_, rfl⟩
    rw [← hV]
    have OV : OnlyB w.heap.size wr V := by rw [hV]; exact OnlyB.setCell _ _ _ _
    have BV : Blk V w.heap.size 40 (JW s A' l.length c').toArray := by rw [hV]; exact BS.out.set_ 10 _
    have BR2 := OV.blk BR.out (by omega)
    have U2 := OV.bel U.out (Nat.le_refl _)
    have HO2 : Owns V _ _ _ _ _ _ _ := OV.owns HO.out.own (by omega)
    clear x10 fz hV
    go_wp2_with (first | (refine zae rfl 40 (.tmp 1) rfl w.heap.size 0 rfl 40 (JW s A' l.length c') BV 14 _ Tryz.underlying40 zbc (Nat.le_refl 14) _ rfl rfl ?_) | (refine zaf rfl 40 (.tmp 2) (.tmp 26) rfl (w.heap.size + 1) 0 rfl 40 _ BR2 (JW s A' l.length c') rfl zbc (Nat.le_refl 14) rfl (JW s A' l.length c') rfl ?_; intro WF BF OF))
    refine bodyPost_ret (v := .agg (JW s A' l.length c').toArray) (results_cell_row (p := 2) (ty := 40) rfl _ _ (w.heap.size + 1) 40 _ (0, 0) _ rfl BF Tryz.underlying40 rfl zbc) rfl ⟨A', c', l', rfl, by rw [HL.out, List.take_of_length_le (by simp)], ?_, OF.bel U2 (by omega)⟩
    exact ((HO.out.only OV (by omega)).only OF (by omega))
  have hi1 : (k : Int) < (l.length : Int) := by omega
  obtain ⟨a, ha⟩ : ∃ a, l[k]? = some a := ⟨_, List.getElem?_eq_getElem hk⟩
  obtain ⟨b, off, rfl, hbB, e0, e1, e2, e3, e4, e5⟩ := zcj (HA.out.1.keep (fun p hp => U.out.cell hp)) ha
  have hpa := HP.out a (List.mem_of_getElem? ha)
  have hia := (HA.out.2 a (List.mem_of_getElem? ha)).keep (w' := wr) (fun p hp => U.out.cell hp)
  have hm : (l.map TW.w)[k]? = some a.w := by rw [List.getElem?_map, ha]; rfl
  have HM := H9 hm
  obtain ⟨⟨at0, ⟨sq0, ti0, mk0, ty0, pl0⟩⟩, B0, c0⟩ := a
  simp only at e0 e1 e2 e3 e4 e5 hpa hia HM
  have IA := H9 hia
  have BX := H9 (Blk.new wr 105 #[.int .i64 at0, .int .i64 sq0, .int .i64 ti0, .bool mk0, .int .u8 ty0, .slice B0 pl0.length c0])
  clear ha hm hia
  have hbs := U.out.size
  go_upto_region 5 with fail
  have hp5 : 0 + pl0.length ≤ maxLen := by unfold maxLen; omega
  have hp6 : (0 + pl0.length) * 1 ≤ 140737488355328 := by omega
  go_upto_region 6 with (at_builtin; go_loud (refine zdq rfl (.const (.slice none 0 0)) _ 22 rfl (wr.heap.size + 1) 5 1 (.int .u8 0) Tryz.underlying22 zoz rfl none 0 0 [] rfl Owns.nil w.heap.size .u8 B0 c0 pl0 rfl (IA.out.alloc hbs _) hp5 hp6 (by rw [zbg]; exact Nat.le_refl _) pl0.length (by omega) ?_); intro A9 c9 v1 hown9 hgr9 hat9; have BY := BX.out.grown hgr9 (by simp [ownB]); have y0 := BY.at 0 _ rfl; have y1 := BY.at 1 _ rfl; have y2 := BY.at 2 _ rfl; have y3 := BY.at 3 _ rfl; have y4 := BY.at 4 _ rfl; have y5 := BY.at 5 _ rfl; have yz := BY.frozen 5)
  have UW : Below wr.heap.size wr (wr.alloc (.cells #[.int .i64 at0, .int .i64 sq0, .int .i64 ti0, .bool mk0, .int .u8 ty0, .slice B0 pl0.length c0] 105)) := (Below.refl _ _).alloc (Nat.le_refl _) _
  have hI9 : IntsNew wr.heap.size v1 .u8 A9 pl0 := IntsNew.of_own hown9 (by omega)
  have UV : Below wr.heap.size wr v1 := UW.grown hgr9 UW.size (fun g e => by simp [ownB] at e)
  have hne9 : ∀ g, ownB A9 = some g → g ≠ wr.heap.size := fun g e => by have := (hown9.block g e).1; omega
  obtain ⟨V1, hV1⟩ : ∃ W, W = v1.setCell ⟨wr.heap.size, 5, none⟩ (.slice A9 pl0.length c9) := ⟨_, rfl⟩
  rw [← hV1]
  have OV : OnlyB wr.heap.size v1 V1 := by rw [hV1]; exact OnlyB.setCell _ _ _ _
  have BV : Blk V1 wr.heap.size 105 #[.int .i64 at0, .int .i64 sq0, .int .i64 ti0, .bool mk0, .int .u8 ty0, .slice A9 pl0.length c9] := by rw [hV1]; exact BY.set_ 5 _
  have HI9 : Hid (IntsNew wr.heap.size V1 .u8 A9 pl0) := H9 (IntsNew.of_own (base := wr.heap.size + 1) (OV.owns hown9 (by omega)) (by omega))
  have HCP9 := H9 (show pl0.length ≤ c9 from Owns.cap hown9)
  replace UV := H9 (OV.below UV UV.size (Nat.le_refl _))
  have HO1 := H9 (HO.out.below UV.out)
  clear hV1 OV BY y0 y1 y2 y3 y4 y5 yz hgr9 hown9 hat9 hI9 hne9 UW BX IA hp5 hp6
  have z0 := BV.at 0 _ rfl
  have z1 := BV.at 1 _ rfl
  have z2 := BV.at 2 _ rfl
  have z3 := BV.at 3 _ rfl
  have z4 := BV.at 4 _ rfl
  have z5 := BV.at 5 _ rfl
  clear BV e0 e1 e2 e3 e4 e5
  have h5 : (k + 1) * 56 ≤ 140737488355328 := by omega
  have h6 : k + 1 ≤ maxLen := by unfold maxLen; omega
  have h7 : w.heap.size + 2 ≤ V1.heap.size := by have := UV.out.size; omega
  have HX := H9 HO1.out.own
  go_wp2_with (at_builtin; go_loud (refine zcc (w0 := V1) rfl _ _ 38 rfl (w.heap.size + 2) 105 6 56 _ Tryz.underlying38 zoy rfl (by decide) A' k c' _ rfl HX.out [.int .i64 at0, .int .i64 sq0, .int .i64 ti0, .bool mk0, .int .u8 ty0, .slice A9 pl0.length c9] rfl (by simp [Value.oneCell']) rfl h6 h5 h7 ?_); intro An cn wn qo hgr hat)
  have hAk : ∀ g, ownB A' = some g → w.heap.size + 2 ≤ g := fun g e => (HO.out.own.block g e).1
  have BS2 := H9 ((BS.out.below UV.out (by omega)).grown hgr (fun e => by have := hAk _ e.symm; omega))
  have BR2 := H9 ((BR.out.below UV.out (by omega)).grown hgr (fun e => by have := hAk _ e.symm; omega))
  have U2 : Hid (Bel w wn) := H9 ((U.out.later UV.out).grown hgr (by have := UV.out.size; omega) (fun g e => by have := hAk g e; omega))
  have HO2 := H9 (HO.out.step (a := ⟨⟨at0, ⟨sq0, ti0, mk0, ty0, pl0⟩⟩, A9, c9⟩) (by omega) UV.out (Below.refl _ _) hgr (by simpa [TW.row] using qo) hat HI9.out HCP9.out)
  clear qo hgr hat hAk z0 z1 z2 z3 z4 z5 h5 h6 h7
  go_wp2_with fail
  go_roundg (gk - 1)
  case measure => omega
  case rel => exact ⟨k + 1, An, cn, l' ++ [⟨⟨at0, ⟨sq0, ti0, mk0, ty0, pl0⟩⟩, A9, c9⟩], by omega, rfl, by go_num, H9 (by rw [List.map_append, HL.out, List.take_add_one, HM.out]; rfl), HO2, BS2, BR2, U2⟩
end Go.Proofs.YtahbecinkciahaaGreat
namespace Go.Proofs.YtahbecinkciahaaGreat
open Go.Maps (Keyed)
open Go.RowKit
def heldV (v : Value) : Option (DataW Value × List MemPlace) := some (.held v, [])
def cLaw (g : Nat) : Value := .agg #[.func (.func 136) #[] #[.pointer (some ⟨g, 0, none⟩)], .func (.func 138) #[] #[.pointer (some ⟨g, 0, none⟩)]]
def cDel : Value := .agg #[.func (.func 92) #[] #[], .func (.func 93) #[] #[]]
def cNil : Value := .agg #[.nilFunc, .nilFunc]
theorem zge : Maps.Keyed Tryz.prog 5 := Maps.int_keyed Tryz.underlying5
theorem zkw (w : World) : (zeroValue 97).run Tryz.prog w = .ok cNil w := by kernel_rfl
theorem key8 (n : Int) (h0 : 0 ≤ n) (h1 : n ≤ 255) : keyOf Tryz.prog 5 (.int .u8 n) = some (.int .u8 n) := Maps.keyOf_int_mk Tryz.underlying5 (by simp [Lit.wf, IntKind.min, IntKind.max, IntKind.signed, IntKind.bits]; omega)
def cMap (b1 b2 : Nat) : DataW Value := (((DataW.map []).put (.int .u8 0) (.held (cLaw b1))).put (.int .u8 8) (.held (cLaw b2))).put (.int .u8 96) (.held cDel)
def cAt (b1 b2 : Nat) (k : Int) : Value := if k = 0 then cLaw b1 else if k = 8 then cLaw b2 else if k = 96 then cDel else cNil
theorem zre (b1 b2 : Nat) (k : Int) (z : DataW Value) : (cMap b1 b2).atKey (.int .u8 k) z = if k = 0 ∨ k = 8 ∨ k = 96 then .held (cAt b1 b2 k) else z := by
 have m0 : Maps.IsMap (DataW.map ([] : List (Lit × DataW Value))) := Maps.isMap_empty
 have m1 := m0.put (.int .u8 0) (.held (cLaw b1))
 have m2 := m1.put (.int .u8 8) (.held (cLaw b2))
 unfold cMap cAt
 by_cases h2 : k = 96
 · subst h2
   rw [Maps.atKey_put_same m2 (by unfold WideAt.IsKeyLit; trivial)]
   simp
 rw [Maps.atKey_put_other (fun e => h2 (by injection e))]
 by_cases h1 : k = 8
 · subst h1
   rw [Maps.atKey_put_same m1 (by unfold WideAt.IsKeyLit; trivial)]
   simp
 rw [Maps.atKey_put_other (fun e => h1 (by injection e))]
 by_cases h0 : k = 0
 · subst h0
   rw [Maps.atKey_put_same m0 (by unfold WideAt.IsKeyLit; trivial)]
   simp
 rw [Maps.atKey_put_other (fun e => h0 (by injection e)), if_neg (by omega)]
 rfl
structure Cods (w : World) (n b b1 b2 : Nat) : Prop where
 map : w.ownsMap Tryz.prog 5 heldV b 3 (cMap b1 b2)
 l1 : Blk w b1 5 #[.int .u8 1]
 l2 : Blk w b2 5 #[.int .u8 2]
 n0 : n ≤ b
 n1 : n ≤ b1
 n2 : n ≤ b2
theorem zck {H : Type} {P : Program} {k : TypeId} {R : Value → Option (DataW H × List MemPlace)} {w w' : World} {b n : Nat} {D : DataW H} (h : w.ownsMap P k R b n D) (hb : Below w.heap.size w w') : w'.ownsMap P k R b n D := by
 have hlt := h.lt
 obtain ⟨es, clock, h1, r⟩ := h
 exact ⟨es, clock, (hb.block b hlt).trans h1, r⟩
theorem Cods.later {w w' : World} {n b b1 b2 : Nat} (h : Cods w n b b1 b2) (hb : Below w.heap.size w w') : Cods w' n b b1 b2 := ⟨zck h.map hb, h.l1.later hb, h.l2.later hb, h.n0, h.n1, h.n2⟩
theorem zbr {w : World} {n b b1 b2 : Nat} (h : Cods w n b b1 b2) (k : Int) (h0 : 0 ≤ k) (h1 : k ≤ 255) : (Instr.lookup 99 (.map (some b)) (.int .u8 k) false).run Tryz.prog w = .ok (cAt b1 b2 k) w ∧
 (Instr.lookup 99 (.map (some b)) (.int .u8 k) true).run Tryz.prog w = .ok (.tuple #[cAt b1 b2 k, .bool (speechB k)]) w := by
 obtain ⟨es, clock, hb, F, _, hD⟩ := h.map
 have hk := key8 k h0 h1
 have hz := zkw w
 have hat := zre b1 b2 k
 rw [hD] at hat
 have hno : ¬(k = 0 ∨ k = 8 ∨ k = 96) → cAt b1 b2 k = cNil := fun hn => by unfold cAt; rw [if_neg (by omega), if_neg (by omega), if_neg (by omega)]
 have both : ∀ c, (Instr.lookup 99 (.map (some b)) (.int .u8 k) c).run Tryz.prog w = .ok (if c then .tuple #[cAt b1 b2 k, .bool (speechB k)] else cAt b1 b2 k) w := by
  intro c
  rcases Maps.fit_look c zge Tryz.underlying99 hz hb F hk with ⟨hrun, _, ha⟩ | ⟨e0, y, hk0, hk1, hrun, hRv, ha, hx⟩
  · have hn : ¬(k = 0 ∨ k = 8 ∨ k = 96) := fun hin => by
     have h1 := hat .nil
     rw [ha .nil, if_pos hin] at h1
     cases h1
    rw [hrun, hno hn, zdo hn]
  · have hy : y.1 = .held e0.val := congrArg Prod.fst (Option.some.inj hRv).symm
    have hin : k = 0 ∨ k = 8 ∨ k = 96 := by
     rcases Classical.em (k = 0 ∨ k = 8 ∨ k = 96) with hin | hn
     · exact hin
     · have h1 := hat .nil
       rw [ha .nil, if_neg hn, hy] at h1
       cases h1
    have h1 := hat .nil
    rw [ha .nil, if_pos hin, hy] at h1
    replace h1 := DataW.held.inj h1
    rw [hrun, h1, zib hin]
 exact ⟨both false, both true⟩
def CompR (w : World) (l : Int) (e : Ending) (w' : World) : Prop := ∃ g, e = .returned (cLaw g) ∧ Blk w' g 5 #[.int .u8 l] ∧ w.heap.size ≤ g ∧ Below w.heap.size w w'
theorem zde (l : Int) (w : World) : Calls Tryz.prog 91 #[.int .u8 l] w (CompR w l) := by
 have hmf : ∀ (fn : Fn) (first cap : Array Value) (w : World), (Instr.makeFunc fn first cap).run Tryz.prog w = .ok (.func fn first cap) w := fun _ _ _ _ => rfl
 go_enter Tryz.func91, Tryz.ntmps91
 go_wp2_with fail
 exact bodyPost_ret (v := cLaw w.heap.size) (by simp [results, Tryz.results91, go_sem, cLaw]) rfl ⟨w.heap.size, rfl, (Blk.new w _ _).push _, Nat.le_refl _, ((Bel.refl w).push _).push _⟩
theorem zcn {H : Type} {P : Program} (w : World) {ops : Array Oper} {rest : List Oper} {o : Oper} {a : Act} {Q : Exit → Act → World → Prop}
 (hg : o.guard = none) (m x v : Operand) (t : TypeId) (hop : o.op = Op.insert t m x v)
 (k e : TypeId) (K : Keyed P k) (ht : P.underlying t = some (.map k e)) (R : Value → Option (DataW H × List MemPlace)) (b n : Nat) (D : DataW H)
 (hm : a.eval m = .map (some b)) (qo : w.ownsMap P k R b n D) (hn : n < maxLen) (key val : Value) (kl : Lit) (hx : a.eval x = key) (hv : a.eval v = val) (hkey : keyOf P k key = some kl)
 (d : DataW H) (ps : List MemPlace) (hval : R val = some (d, ps))
 (hK : ∀ w', w'.ownsMap P k R b (n + 1) (D.put kl d) → w.grownBy w' (some b) → wpList P ops Q rest (a.put o.dst undef) w') :
 wpList P ops Q (o :: rest) a w := by
 refine wpList_plain hg fun K' hK' => ?_
 obtain ⟨w', hrun, r1, r2⟩ := qo.update K ht hn hkey hval
 unfold Oper.wp
 simp [execOp, hop, hm, hx, hv, hrun, Result.andThen]
 exact hK' _ _ (hK w' r1 r2)
def CodsR (w : World) (e : Ending) (w' : World) : Prop := ∃ b b1 b2, e = .returned (.map (some b)) ∧ Cods w' w.heap.size b b1 b2 ∧ Below w.heap.size w w'
theorem zbw (w : World) : Calls Tryz.prog 36 #[] w (CodsR w) := by
 have hmm := @run_makeMap Tryz.prog
 have hm0 := H9 (World.ownsMap_made w Tryz.prog 5 heldV)
 have U0 := H9 ((Bel.refl w).push (.map #[] 0))
 go_enter Tryz.func36, Tryz.ntmps36
 go_wp2_with fail
 refine (zde 1 _).mono ?_
 rintro e w1 ⟨g1, rfl, HB1, hg1, hb1⟩
 have hm1 := H9 (zck hm0.out hb1)
 have U1 := H9 (U0.out.later hb1)
 have B1 := H9 HB1
 have hn1 : w.heap.size + 1 ≤ g1 := by simpa using hg1
 clear hb1 HB1 hg1
 go_wp2_with (refine zcn _ rfl _ _ _ 99 rfl 5 97 zge Tryz.underlying99 heldV _ 0 _ rfl hm1.out (by unfold maxLen; omega) _ _ (.int .u8 0) rfl rfl (key8 0 (by omega) (by omega)) (.held (cLaw g1)) [] rfl ?_; intro w2 hm2 hg2)
 replace B1 := H9 (B1.out.grown hg2 (fun e => by injection e with e; omega))
 have U2 := H9 (show Bel w w2 from U1.out.grown hg2 U1.out.size (fun g e => by injection e with e; omega))
 have hm2 := H9 hm2
 clear hg2 hm1 U1
 refine (zde 2 _).mono ?_
 rintro e w3 ⟨g2, rfl, HB2, hg2, hb3⟩
 have hm3 := H9 (zck hm2.out hb3)
 have U3 := H9 (U2.out.later hb3)
 replace B1 := H9 (B1.out.later hb3)
 have B2 := H9 HB2
 have hn2 : w.heap.size + 1 ≤ g2 := by have := B1.out.lt; have := hm2.out.lt; omega
 clear hb3 HB2 hg2 hm2 U2
 go_wp2_with (refine zcn _ rfl _ _ _ 99 rfl 5 97 zge Tryz.underlying99 heldV _ 1 _ rfl hm3.out (by unfold maxLen; omega) _ _ (.int .u8 8) rfl rfl (key8 8 (by omega) (by omega)) (.held (cLaw g2)) [] rfl ?_; intro w4 hm4 hg4; obtain ⟨w5, hrun5, hm5, hg5⟩ := hm4.update zge Tryz.underlying99 (by unfold maxLen; omega) (key8 96 (by omega) (by omega)) (show heldV (.agg #[.func (.func 92) #[] #[], .func (.func 93) #[] #[]]) = some (.held cDel, []) from rfl))
 replace B1 := H9 (B1.out.grown hg4 (fun e => by injection e with e; omega))
 replace B2 := H9 (B2.out.grown hg4 (fun e => by injection e with e; omega))
 have U4 := H9 (show Bel w w4 from U3.out.grown hg4 U3.out.size (fun g e => by injection e with e; omega))
 replace B1 := H9 (B1.out.grown hg5 (fun e => by injection e with e; omega))
 replace B2 := H9 (B2.out.grown hg5 (fun e => by injection e with e; omega))
 have U5 := H9 (show Bel w w5 from U4.out.grown hg5 U4.out.size (fun g e => by injection e with e; omega))
 go_ret
 exact ⟨w.heap.size, g1, g2, rfl, ⟨hm5, B1.out, B2.out, Nat.le_refl _, by omega, by omega⟩, U5.out⟩
theorem zms (b1 b2 : Nat) (k : Int) : cAt b1 b2 k = cLaw b1 ∨ cAt b1 b2 k = cLaw b2 ∨ cAt b1 b2 k = cDel ∨ cAt b1 b2 k = cNil := by
 unfold cAt
 split
 · exact .inl rfl
 split
 · exact .inr (.inl rfl)
 split
 · exact .inr (.inr (.inl rfl))
 · exact .inr (.inr (.inr rfl))
theorem zds (k : Int) (w : World) (h0 : 0 ≤ k) (h1 : k ≤ 255) : Calls Tryz.prog 39 #[.int .u8 k] w fun e w' => e = .returned (.bool (speechB k)) ∧ Below w.heap.size w w' := by
 go_enter Tryz.func39, Tryz.ntmps39
 go_wp2_with fail
 refine (zbw _).mono ?_
 rintro e w1 ⟨b, b1, b2, rfl, C, hb1⟩
 have kl := (zbr C k h0 h1).2
 have hU := H9 (Bel.later (Bel.refl w) hb1)
 clear hb1 C
 rcases zms b1 b2 k with h | h | h | h
 all_goals
  rw [h] at kl
  simp only [cLaw, cDel, cNil] at kl
  clear h
  go_wp2_with fail
  go_ret
  exact ⟨rfl, hU.out.push _⟩
end Go.Proofs.YtahbecinkciahaaGreat
namespace Go.Proofs.YtahbecinkciahaaGreat
open Go.RowKit
theorem zdh {k : IntKind} {a b : Int} (h : a = b) : Ending.returned (.int k a) = .returned (.int k b) := by rw [h]
theorem zjy (w : World) : (zeroValue 198).run Tryz.prog w = .ok (.agg Dlt.zeroA) w := by kernel_rfl
theorem zmt : (Tryz.prog.info? 198).map (·.size) = some 89 := by kernel_rfl
theorem zrf : (Tryz.prog.info? 198).map (·.size) = some Dlt.szL.length := by rw [Dlt.szL_len]; exact zmt
theorem zpa : (Tryz.prog.info? 198).map (·.size) = some Dlt.szL.toArray.size := by
 have e89 : Dlt.szL.toArray.size = 89 := by simp [Dlt.szL]
 rw [e89]; exact zmt
theorem zca {B : Nat} {a : World} {b : Nat} (hb : B ≤ b) : ∀ (vs : List Value) (o : Nat) (w : World), Below B a w → Below B a (w.setCells b o vs)
 | [], _, _, h => h
 | v :: r, o, w, h => by
   rw [World.setCells]
   exact zca hb r (o + 1) _ (h.setCell (p := ⟨b, o, none⟩) hb v)
theorem zmu (b : Nat) (s : Int) (w : World) (hc : w.cell? ⟨b, 0, none⟩ = some (.int .i64 s)) (hf : w.frozen? ⟨b, 0, none⟩ = false) (h0 : 7 ≤ s) (h1 : s ≤ 32767) :
 Calls Tryz.prog 162 #[.pointer (some ⟨b, 0, none⟩)] w fun e w' => e = .returned (.int .i64 s) ∧ w.setCell ⟨b, 0, none⟩ (.int .i64 (min (s + (s + 5) / 10) 32767)) = w' := by
 by_cases h : 32767 < s + (s + 5) / 10
 · go_enter Tryz.func162, Tryz.ntmps162
   go_wp2
   go_ret
   refine ⟨rfl, ?_⟩
   congr 2
   omega
 · go_enter Tryz.func162, Tryz.ntmps162
   go_wp2
   go_ret
   refine ⟨rfl, ?_⟩
   congr 2
   omega
theorem zij (w : World) : (w.alloc (.cells Dlt.zeroA 198)).rowIs w.heap.size 198 89 (fun _ => .int .i64 0) := by
 have h := World.rowIs_alloc w Dlt.zeroA 198 (fun _ => .int .i64 0) (fun i hi => by
  have : i < 89 := by simpa [Dlt.zeroA] using hi
  simp [Dlt.zeroA, this])
 have e : Dlt.zeroA.size = 89 := by simp [Dlt.zeroA]
 rwa [e] at h
theorem zmv {w : World} {b : Nat} {t : TypeId} (h : w.rowIs b t 89 (fun j => .int .i64 (if j < 89 then Dlt.st j else 0))) : w.rangeAt b 0 Dlt.szL := fun j v hv => by
 have hj : j < 89 := by have := (List.getElem?_eq_some_iff.1 hv).1; rwa [Dlt.szL_len] at this
 rw [Nat.zero_add, h.cell hj, if_pos hj]
 rw [Dlt.szL_at j hj] at hv
 exact hv
theorem zhe {w : World} {b n : Nat} {t : TypeId} {f : Nat → Value} (h : w.rowIs b t n f) : w.there b 0 n := fun j hj => by
 rw [Nat.zero_add]
 exact ⟨by rw [h.cell hj]; rfl, h.frozen j⟩
def SizesEnd (w : World) (e : Ending) (w' : World) : Prop := e = .returned (.agg Dlt.szA) ∧ Below w.heap.size w w'
theorem zmw (w : World) : Calls Tryz.prog 141 #[] w (SizesEnd w) := by
 have hz := zjy
 have r0 := ((zij w).alloc (.cells Dlt.zeroA 198)).alloc (.cells #[.int .i64 7] 3)
 have r1 := (zij (w.alloc (.cells Dlt.zeroA 198))).alloc (.cells #[.int .i64 7] 3)
 have hb : Below w.heap.size w (((w.alloc (.cells Dlt.zeroA 198)).alloc (.cells Dlt.zeroA 198)).alloc (.cells #[.int .i64 7] 3)) :=
  (((Below.refl _ _).alloc (Nat.le_refl _) _).alloc (by simp) _).alloc (by simp; omega) _
 have r2 : (((w.alloc (.cells Dlt.zeroA 198)).alloc (.cells Dlt.zeroA 198)).alloc (.cells #[.int .i64 7] 3)).rowIs (w.heap.size + 1 + 1) 3 1 (fun _ => .int .i64 7) := by
  have h := World.rowIs_alloc ((w.alloc (.cells Dlt.zeroA 198)).alloc (.cells Dlt.zeroA 198)) #[.int .i64 7] 3 (fun _ => .int .i64 7) (fun i hi => by
   have : i = 0 := by simpa using hi
   subst this; rfl)
  simpa using h
 have R0 := H9 r0
 have R1 := H9 r1
 have R2 := H9 r2
 have HB := H9 hb
 clear r0 r1 r2 hb
 go_enter Tryz.func141, Tryz.ntmps141
 go_wp2_with fail
 go_loopw [6] (fun i wr => ∃ k : Nat, k ≤ 89 ∧ i = .int .i64 k ∧ wr.rowIs w.heap.size 198 89 (fun _ => .int .i64 0) ∧
  wr.rowIs (w.heap.size + 1) 198 89 (fun j => .int .i64 (if j < k then Dlt.st j else 0)) ∧ wr.rowIs (w.heap.size + 1 + 1) 3 1 (fun _ => .int .i64 (Dlt.st k)) ∧ Below w.heap.size w wr)
  (fun i _ => 89 - (intOf i).toNat)
 case atStart => exact ⟨0, by omega, rfl, by simpa using R0.out, by simpa using R1.out, by simpa [Dlt.st] using R2.out, HB.out⟩
 case round =>
  obtain ⟨k, hk, rfl, q0, q1, q2, hb⟩ := hrel
  have hz0 := q0.lt
  have hz1 := q1.lt
  have hz2 := q2.lt
  by_cases hlt : (k : Int) < 89
  · have hc1 : wr.cell? ⟨w.heap.size + 1, k, none⟩ = some (.int .i64 0) := by rw [q1.cell (by omega)]; simp
    have hf1 := q1.frozen k
    have hc2 := q2.cell (i := 0) (by omega)
    have hf2 := q2.frozen 0
    obtain ⟨s0, s1⟩ := Dlt.st_bd k
    have Q0 := H9 q0
    have Q1 := H9 q1
    have Q2 := H9 q2
    clear q0 q1 q2 hz
    go_wp2_with (go_at_call 162; refine (zmu _ _ _ hc2 hf2 s0 s1).mono ?_; rintro e w' ⟨rfl, rfl⟩)
    go_roundw
    case rel =>
     refine ⟨k + 1, by omega, by go_num, (Q0.out.setOther (by simp; omega) _).setOther (by simp) _, ?_, ?_, (hb.setCell (by simp; omega) _).setCell (by simp) _⟩
     · exact zby (g := Dlt.st) (Q1.out.setOther (by simp) _)
     · exact ((Q2.out.set 0 _).setOther (by simp) _).congr fun i hi => by
        have : i = 0 := by omega
        subst this; rfl
    case measure => simp [intOf]; omega
  · obtain rfl : k = 89 := by omega
    have hr := zmv q1
    have ht := zhe q0
    clear q0 q1 q2 hz
    have e89 : Dlt.szL.toArray.size = 89 := by simp [Dlt.szL]
    have HT : Hid (wr.there w.heap.size 0 Dlt.szL.toArray.size) := by rw [e89]; exact ht
    have HI := H9 zrf
    have HI2 := H9 zpa
    have hs := Below.size hb
    clear e89 ht
    go_wp2_with (first
     | (refine wpList_load_mid rfl 198 (.tmp 1) (by rfl) (w.heap.size + 1) 0 (by rfl) Dlt.szL _ hr Tryz.underlying198 rfl HI.out ?_)
     | (refine wpList_store_mid rfl 198 (.tmp 0) (.tmp 14) (by rfl) w.heap.size 0 Dlt.szL.toArray (by rfl) (by rfl) HT.out HI2.out (all_oneCell_toArray Dlt.szL_one) ?_))
    have hL := run_loadVar_mid (P := Tryz.prog) (wr.setCells w.heap.size 0 Dlt.szL) w.heap.size 0 198 Dlt.szL _ (World.rangeAt_setCells_same wr w.heap.size 0 Dlt.szL (by have := HT.out; rwa [List.size_toArray] at this)) Tryz.underlying198 rfl HI.out
    exact bodyPost_ret (v := .agg Dlt.szA) (zcl Tryz.results141 rfl hL) rfl ⟨rfl, zca (Nat.le_refl _) _ _ _ hb⟩
theorem zeo (w : World) :
 Calls Tryz.prog 141 #[] w fun e w' => e = .returned (.agg Dlt.szA) ∧ Below w.heap.size w w' := zmw w
theorem zrg (k : Nat) : Dlt.st (k + 1) = min (Dlt.st k + (Dlt.st k + 5) / 10) 32767 := rfl
theorem zgf (i : Int) (w : World) (h0 : 0 ≤ i) (h1 : i ≤ 88) : Calls Tryz.prog 159 #[.int .i64 i] w fun e w' => e = .returned (.int .i64 (Dlt.st i.toNat)) ∧ w = w' := by
 obtain ⟨n, rfl⟩ := Int.eq_ofNat_of_zero_le h0
 rw [Int.toNat_natCast]
 go_enter Tryz.func159, Tryz.ntmps159
 go_wp2
 go_loop [3, 4] (fun s k => ∃ j : Nat, j ≤ n ∧ k = .int .i64 j ∧ s = .int .i64 (Dlt.st j)) (fun _ k => n - (intOf k).toNat)
 case atStart => exact ⟨0, by omega, rfl, rfl⟩
 case round =>
  obtain ⟨j, hj, rfl, rfl⟩ := hrel
  obtain ⟨s0, s1⟩ := Dlt.st_bd j
  by_cases hlt : (j : Int) < n
  · by_cases hc : 32767 < Dlt.st j + (Dlt.st j + 5) / 10
    all_goals
     go_wp2
     go_round
     case rel => exact ⟨j + 1, by omega, by go_num, by rw [zrg]; congr 1; omega⟩
     case measure => simp [intOf]; omega
  · obtain rfl : j = n := by omega
    go_wp2
    go_ret
    exact ⟨rfl, rfl⟩
end Go.Proofs.YtahbecinkciahaaGreat
namespace Go.Proofs.YtahbecinkciahaaGreat
attribute [local go_sem ↓] zac zad
attribute [local go_sem] zab zag
open Go.RowKit
def stV (v i : Int) : Value := .agg #[.int .i64 v, .int .i64 i]
theorem zbs {v i : Int} (h : Dlt.valid v i = true) : -32768 ≤ v ∧ v ≤ 32767 ∧ 0 ≤ i ∧ i ≤ 88 := by
 simpa [Dlt.valid, and_assoc] using h
theorem zep {v i : Int} (h : Dlt.valid v i = false) : (decide (-32768 ≤ v) = false) ∨ (-32768 ≤ v ∧ decide (v ≤ 32767) = false) ∨ (-32768 ≤ v ∧ v ≤ 32767 ∧ decide (0 ≤ i) = false) ∨ (-32768 ≤ v ∧ v ≤ 32767 ∧ 0 ≤ i ∧ decide (i < 89) = false ∧ decide (i ≤ 88) = false) := by
 by_cases h1 : -32768 ≤ v
 · by_cases h2 : v ≤ 32767
   · by_cases h3 : 0 ≤ i
     · right; right; right
       have h4 : ¬ i ≤ 88 := by
        intro h4
        simp [Dlt.valid, h1, h2, h3, h4] at h
       exact ⟨h1, h2, h3, by simp; omega, by simpa using h4⟩
     · exact .inr (.inr (.inl ⟨h1, h2, by simpa using h3⟩))
   · exact .inr (.inl ⟨h1, by simpa using h2⟩)
 · exact .inl (by simpa using h1)
theorem zhf (v i : Int) (w : World) : Calls Tryz.prog 64 #[.agg #[.int .i64 v, .int .i64 i]] w fun e w' => e = .returned (.bool (Dlt.valid v i)) ∧ w.alloc (.cells #[.int .i64 v, .int .i64 i] 24) = w' := by
 cases hv : Dlt.valid v i
 · rcases zep hv with h1 | ⟨h1, h2⟩ | ⟨h1, h2, h3⟩ | ⟨h1, h2, h3, h4, _⟩
   all_goals
    clear hv
    go_enter Tryz.func64, Tryz.ntmps64
    go_wp2
    go_ret
    exact ⟨rfl, rfl⟩
 · obtain ⟨h1, h2, h3, h4⟩ := zbs hv
   have h5 : i < 89 := by omega
   clear hv h4
   go_enter Tryz.func64, Tryz.ntmps64
   go_wp2
   go_ret
   exact ⟨rfl, rfl⟩
theorem zcy (v i : Int) (w : World) : Calls Tryz.prog 67 #[.agg #[.int .i64 v, .int .i64 i]] w fun e w' => e = .returned (.bool (Dlt.valid v i)) ∧ w.alloc (.cells #[.int .i64 v, .int .i64 i] 24) = w' := by
 cases hv : Dlt.valid v i
 · rcases zep hv with h1 | ⟨h1, h2⟩ | ⟨h1, h2, h3⟩ | ⟨h1, h2, h3, _, h4⟩
   all_goals
    clear hv
    go_enter Tryz.func67, Tryz.ntmps67
    go_wp2
    go_ret
    exact ⟨rfl, rfl⟩
 · obtain ⟨h1, h2, h3, h4⟩ := zbs hv
   clear hv
   go_enter Tryz.func67, Tryz.ntmps67
   go_wp2
   go_ret
   exact ⟨rfl, rfl⟩
def StepsAt (w : World) (b : Nat) : Prop := b < w.heap.size ∧ ∀ n, n < 89 → w.cell? ⟨b, n, none⟩ = some (.int .i64 (Dlt.st n))
theorem StepsAt.below {w w' : World} {b : Nat} (h : StepsAt w b) (hb : Below w.heap.size w w') : StepsAt w' b :=
 ⟨Nat.lt_of_lt_of_le h.1 hb.size, fun n hn => (hb.cell (p := ⟨b, n, none⟩) h.1).trans (h.2 n hn)⟩
theorem zik (v x : Int) (n : Nat) (A : Int) (hA : A = ((x - v).natAbs : Int)) : Dlt.code v n x = (if x - v < 0 then 8 else 0) + min (4 * A / Dlt.st n) 7 ∧ 0 ≤ 4 * A / Dlt.st n := by
 have h := Dlt.st_bd n
 refine ⟨by unfold Dlt.code; rw [hA, Int.toNat_natCast], Int.ediv_nonneg (by omega) (by omega)⟩
theorem zkx (b : Nat) (v i x : Int) (w : World) (hs : StepsAt w b) (hv : Dlt.valid v i = true) (x0 : -32768 ≤ x) (x1 : x ≤ 32767) :
 Calls Tryz.prog 142 #[.pointer (some ⟨b, 0, none⟩), .agg #[.int .i64 v, .int .i64 i], .int .i64 x] w fun e w' => e = .returned (.int .i64 (Dlt.code v i x)) ∧ Below w.heap.size w w' := by
 obtain ⟨h1, h2, h3, h4⟩ := zbs hv
 clear hv
 obtain ⟨n, rfl⟩ := Int.eq_ofNat_of_zero_le h3
 obtain ⟨hb, hc⟩ := hs
 have hcn := hc n (by omega)
 have hst := Dlt.st_bd n
 obtain ⟨s0, s1⟩ := hst
 clear hc
 by_cases hx : x - v < 0
 · go_enter Tryz.func142, Tryz.ntmps142
   go_wp2
   go_quiet (fail)
   go_wp2
   all_goals go_ret
   all_goals
    refine ⟨zdh ?_, below_drewN ((Below.refl _ _).alloc (Nat.le_refl _) _) _⟩
    obtain ⟨e1, e2⟩ := zik v x n (-(x - v)) (by omega)
    rw [e1, if_pos hx]
    generalize 4 * -(x - v) / Dlt.st n = q at *
    rw [IntWalk.wrap64_in _ ⟨by omega, by omega⟩]
    try omega
 · go_enter Tryz.func142, Tryz.ntmps142
   go_wp2
   go_quiet (fail)
   go_wp2
   all_goals go_ret
   all_goals
    refine ⟨zdh ?_, below_drewN ((Below.refl _ _).alloc (Nat.le_refl _) _) _⟩
    obtain ⟨e1, e2⟩ := zik v x n (x - v) (by omega)
    rw [e1, if_neg (by omega)]
    generalize 4 * (x - v) / Dlt.st n = q at *
    rw [IntWalk.wrap64_in _ ⟨by omega, by omega⟩]
    try omega
theorem zmx (c : Int) (n : Nat) : 0 ≤ (2 * (c % 8) + 1) * Dlt.st n ∧ (2 * (c % 8) + 1) * Dlt.st n ≤ 491505 := by
 obtain ⟨s0, s1⟩ := Dlt.st_bd n
 have h : c % 8 = 0 ∨ c % 8 = 1 ∨ c % 8 = 2 ∨ c % 8 = 3 ∨ c % 8 = 4 ∨ c % 8 = 5 ∨ c % 8 = 6 ∨ c % 8 = 7 := by omega
 rcases h with h | h | h | h | h | h | h | h <;> rw [h] <;> omega
theorem zdt (b : Nat) (v i c : Int) (w : World) (hs : StepsAt w b) (hv : Dlt.valid v i = true) (c0 : 0 ≤ c) (c1 : c ≤ 15) :
 Calls Tryz.prog 143 #[.pointer (some ⟨b, 0, none⟩), .agg #[.int .i64 v, .int .i64 i], .int .i64 c] w fun e w' => e = .returned (.agg #[.int .i64 (Dlt.nextV v i c), .int .i64 (Dlt.nextI i c)]) ∧ Below w.heap.size w w' := by
 obtain ⟨h1, h2, h3, h4⟩ := zbs hv
 clear hv
 obtain ⟨n, rfl⟩ := Int.eq_ofNat_of_zero_le h3
 obtain ⟨hb, hc⟩ := hs
 have hcn := hc n (by omega)
 have hst := Dlt.st_bd n
 obtain ⟨s0, s1⟩ := hst
 clear hc
 have hp := zmx c n
 obtain ⟨p0, p1⟩ := hp
 go_enter Tryz.func143, Tryz.ntmps143
 go_wp2
 go_quiet (fail)
 have hd : 0 ≤ (2 * (c % 8) + 1) * Dlt.st n / 8 ∧ (2 * (c % 8) + 1) * Dlt.st n / 8 ≤ 61438 := by omega
 have HN := H9 (show Dlt.nextV v n c = Dlt.clamp (-32768) 32767 (if 8 ≤ c then v - (2 * (c % 8) + 1) * Dlt.st n / 8 else v + (2 * (c % 8) + 1) * Dlt.st n / 8) from rfl)
 clear p0 p1
 generalize (2 * (c % 8) + 1) * Dlt.st n / 8 = D at *
 obtain ⟨d0, d1⟩ := hd
 have HI := H9 (show Dlt.nextI n c = Dlt.clamp 0 88 (if c % 8 < 4 then (n : Int) - 1 else n + 2 * (c % 8 - 3)) from rfl)
 by_cases hc8 : 8 ≤ c
 all_goals by_cases hm : c % 8 < 4
 all_goals
  go_wp2
  refine bodyPost_ret (v := .agg #[.int .i64 (Dlt.nextV v n c), .int .i64 (Dlt.nextI n c)]) ?_ rfl ⟨rfl, ?_⟩
  · rw [HN.out, HI.out]
    first
     | (rw [if_pos hc8, if_pos hm]; simp [results, Tryz.results143, go_sem, Dlt.clamp, ← Int.sub_eq_add_neg]; done)
     | (rw [if_pos hc8, if_neg (by omega)]; simp [results, Tryz.results143, go_sem, Dlt.clamp, ← Int.sub_eq_add_neg]; done)
     | (rw [if_neg (by omega), if_pos hm]; simp [results, Tryz.results143, go_sem, Dlt.clamp]; done)
     | (rw [if_neg (by omega), if_neg (by omega)]; simp [results, Tryz.results143, go_sem, Dlt.clamp]; done)
  · exact below_drewN (((Below.refl _ _).alloc (Nat.le_refl _) _).alloc (by simp) _) _
theorem zmy (v i x : Int) (w : World) (hv : Dlt.valid v i = true) (x0 : -32768 ≤ x) (x1 : x ≤ 32767) :
 Calls Tryz.prog 130 #[.agg #[.int .i64 v, .int .i64 i], .int .i16 x] w fun e w' => e = .returned (.int .u8 (Dlt.code v i x)) ∧ Below w.heap.size w w' := by
 obtain ⟨h1, h2, h3, h4⟩ := zbs hv
 clear hv
 obtain ⟨n, rfl⟩ := Int.eq_ofNat_of_zero_le h3
 have hst := Dlt.st_bd n
 obtain ⟨s0, s1⟩ := hst
 have hco := zik v x n (max (x - v) (-(x - v))) (by omega)
 by_cases hx : x - v < 0
 · rw [if_pos hx] at hco
   have HC := H9 hco.1
   have hq := hco.2
   clear hco
   go_enter Tryz.func130, Tryz.ntmps130
   go_wp2_with (go_at_call 159; refine (zgf n _ (by omega) (by omega)).mono ?_; rintro e w' ⟨rfl, rfl⟩)
   go_ret
   refine ⟨zdh ?_, (Below.refl _ _).alloc (Nat.le_refl _) _⟩
   rw [HC.out]
   omega
 · rw [if_neg hx] at hco
   have HC := H9 hco.1
   have hq := hco.2
   clear hco
   go_enter Tryz.func130, Tryz.ntmps130
   go_wp2_with (go_at_call 159; refine (zgf n _ (by omega) (by omega)).mono ?_; rintro e w' ⟨rfl, rfl⟩)
   go_ret
   refine ⟨zdh ?_, (Below.refl _ _).alloc (Nat.le_refl _) _⟩
   rw [HC.out]
   omega
theorem zmz (v i c : Int) (w : World) (hv : Dlt.valid v i = true) (c0 : 0 ≤ c) (c1 : c ≤ 15) :
 Calls Tryz.prog 131 #[.agg #[.int .i64 v, .int .i64 i], .int .u8 c] w fun e w' => e = .returned (.agg #[.int .i64 (Dlt.nextV v i c), .int .i64 (Dlt.nextI i c)]) ∧ Below w.heap.size w w' := by
 obtain ⟨h1, h2, h3, h4⟩ := zbs hv
 clear hv
 obtain ⟨n, rfl⟩ := Int.eq_ofNat_of_zero_le h3
 have hst := Dlt.st_bd n
 obtain ⟨s0, s1⟩ := hst
 have hp := zmx c n
 obtain ⟨p0, p1⟩ := hp
 have HN := H9 (show Dlt.nextV v n c = Dlt.clamp (-32768) 32767 (if 8 ≤ c then v - (2 * (c % 8) + 1) * Dlt.st n / 8 else v + (2 * (c % 8) + 1) * Dlt.st n / 8) from rfl)
 have HI := H9 (show Dlt.nextI n c = Dlt.clamp 0 88 (if c % 8 < 4 then (n : Int) - 1 else n + 2 * (c % 8 - 3)) from rfl)
 by_cases hc8 : 8 ≤ c
 all_goals by_cases hm : c % 8 < 4
 all_goals
  go_enter Tryz.func131, Tryz.ntmps131
  go_wp2_with (go_at_call 159; refine (zgf n _ (by omega) (by omega)).mono ?_; rintro e w' ⟨rfl, rfl⟩)
  refine bodyPost_ret (v := .agg #[.int .i64 (Dlt.nextV v n c), .int .i64 (Dlt.nextI n c)]) ?_ rfl ⟨rfl, ?_⟩
  · rw [HN.out, HI.out]
    first
     | (rw [if_pos hc8, if_pos hm]; simp [results, Tryz.results131, go_sem, Dlt.clamp]; done)
     | (rw [if_pos hc8, if_neg (by omega)]; simp [results, Tryz.results131, go_sem, Dlt.clamp]; done)
     | (rw [if_neg (by omega), if_pos hm]; simp [results, Tryz.results131, go_sem, Dlt.clamp]; done)
     | (rw [if_neg (by omega), if_neg (by omega)]; simp [results, Tryz.results131, go_sem, Dlt.clamp]; done)
  · exact ((Below.refl _ _).alloc (Nat.le_refl _) _).alloc (by simp) _
def Ev.Snd.row (s : Ev.Snd) : Array Value := #[.bool s.on, .int .u8 s.code, .int .u8 s.vol, .int .u32 s.start, .int .i64 s.len, .int .i64 s.ends]
section
variable (on : Bool) (code vol start len ends c v t n : Int) (w : World)
theorem zbd :
 Calls Tryz.prog 126 #[.agg #[.bool on, .int .u8 code, .int .u8 vol, .int .u32 start, .int .i64 len, .int .i64 ends]] w fun e w' => e = .returned (.bool (Ev.Snd.valid ⟨on, code, vol, start, len, ends⟩)) ∧ w.alloc (.cells #[.bool on, .int .u8 code, .int .u8 vol, .int .u32 start, .int .i64 len, .int .i64 ends] 35) = w' := by
 cases on
 all_goals
  go_enter Tryz.func126, Tryz.ntmps126
  go_wp2
  all_goals go_ret
  all_goals refine ⟨?_, rfl⟩
  all_goals (simp_all [Ev.Snd.valid])
  all_goals omega
theorem zaq :
 Calls Tryz.prog 68 #[.agg #[.bool on, .int .u8 code, .int .u8 vol, .int .u32 start, .int .i64 len, .int .i64 ends]] w fun e w' => e = .returned (.bool (Ev.Snd.valid ⟨on, code, vol, start, len, ends⟩)) ∧ w.alloc (.cells #[.bool on, .int .u8 code, .int .u8 vol, .int .u32 start, .int .i64 len, .int .i64 ends] 35) = w' := by
 cases on
 all_goals
  go_enter Tryz.func68, Tryz.ntmps68
  go_wp2
  all_goals go_ret
  all_goals refine ⟨?_, rfl⟩
  all_goals (simp_all [Ev.Snd.valid])
  all_goals omega
theorem zcs {on : Bool} {code vol start len ends : Int} (h : Ev.Snd.valid ⟨on, code, vol, start, len, ends⟩ = true) : vol ≤ 63 ∧ 0 ≤ len ∧ len ≤ 65535 ∧ 0 ≤ ends ∧ ends ≤ 3 ∧ (on = true → ends = 0) := by
 simp [Ev.Snd.valid] at h
 obtain ⟨⟨⟨⟨⟨h1, h2⟩, h3⟩, h4⟩, h5⟩, h6⟩ := h
 refine ⟨h1, h2, h3, h4, h5, fun ho => ?_⟩
 rcases h6 with h6 | h6
 · rw [ho] at h6; cases h6
 · exact h6
theorem zna :
 Calls Tryz.prog 82 #[.agg #[.bool on, .int .u8 code, .int .u8 vol, .int .u32 start, .int .i64 len, .int .i64 ends], .int .u8 c, .int .u8 v, .int .u32 t] w fun e w' => e = .returned (.tuple #[.agg (Ev.press ⟨on, code, vol, start, len, ends⟩ c v t).1.row, .int .u8 (Ev.press ⟨on, code, vol, start, len, ends⟩ c v t).2]) ∧ Below w.heap.size w w' := by
 have k1 := H9 fun W => zbd on code vol start len ends W
 obtain ⟨R, hR⟩ : ∃ R, R = Ev.press ⟨on, code, vol, start, len, ends⟩ c v t := ⟨_, rfl⟩
 rw [← hR]
 obtain ⟨V, hV⟩ : ∃ V, V = Ev.Snd.valid ⟨on, code, vol, start, len, ends⟩ := ⟨_, rfl⟩
 unfold Ev.press at hR
 rw [← hV] at k1 hR
 have HR := H9 hR
 clear hV hR
 cases V <;> cases on
 all_goals
  go_enter Tryz.func82, Tryz.ntmps82
  go_wp2_with (go_at_call 126; refine (k1.out _).mono ?_; rintro e w1 ⟨rfl, rfl⟩)
  all_goals
   refine bodyPost_ret (v := .tuple #[.agg R.1.row, .int .u8 R.2]) ?_ rfl ⟨rfl, ?_⟩
   · have hR := HR.out
     first
      | (simp_all [results, Tryz.results82, go_sem, Ev.Snd.zero, Ev.Snd.row]; done)
      | (simp_all [results, Tryz.results82, go_sem, Ev.Snd.zero, Ev.Snd.row]; (repeat' split) <;> first | omega | (simp_all; done) | (simp_all; omega))
   · repeat (first | exact Below.refl _ _ | refine Below.drew ?_ | refine Below.setCell ?_ (by simp) _ | refine Below.alloc ?_ (by simp; try omega) _)
theorem zky :
 Calls Tryz.prog 84 #[.agg #[.bool on, .int .u8 code, .int .u8 vol, .int .u32 start, .int .i64 len, .int .i64 ends], .int .u8 c, .int .u8 v, .int .u32 t] w fun e w' => e = .returned (.tuple #[.agg (Ev.press ⟨on, code, vol, start, len, ends⟩ c v t).1.row, .int .u8 (Ev.press ⟨on, code, vol, start, len, ends⟩ c v t).2]) ∧ Below w.heap.size w w' := by
 have k1 := H9 fun W => zaq on code vol start len ends W
 obtain ⟨R, hR⟩ : ∃ R, R = Ev.press ⟨on, code, vol, start, len, ends⟩ c v t := ⟨_, rfl⟩
 rw [← hR]
 obtain ⟨V, hV⟩ : ∃ V, V = Ev.Snd.valid ⟨on, code, vol, start, len, ends⟩ := ⟨_, rfl⟩
 unfold Ev.press at hR
 rw [← hV] at k1 hR
 have HR := H9 hR
 clear hV hR
 cases V <;> cases on
 all_goals
  go_enter Tryz.func84, Tryz.ntmps84
  go_wp2_with (go_at_call 68; refine (k1.out _).mono ?_; rintro e w1 ⟨rfl, rfl⟩)
  all_goals
   refine bodyPost_ret (v := .tuple #[.agg R.1.row, .int .u8 R.2]) ?_ rfl ⟨rfl, ?_⟩
   · have hR := HR.out
     first
      | (simp_all [results, Tryz.results84, go_sem, Ev.Snd.zero, Ev.Snd.row]; done)
      | (simp_all [results, Tryz.results84, go_sem, Ev.Snd.zero, Ev.Snd.row]; (repeat' split) <;> first | omega | (simp_all; done) | (simp_all; omega))
   · repeat (first | exact Below.refl _ _ | refine Below.drew ?_ | refine Below.setCell ?_ (by simp) _ | refine Below.alloc ?_ (by simp; try omega) _)
theorem zeq :
 Calls Tryz.prog 66 #[.agg #[.bool on, .int .u8 code, .int .u8 vol, .int .u32 start, .int .i64 len, .int .i64 ends]] w fun e w' => e = .returned (.tuple #[.agg (Ev.release ⟨on, code, vol, start, len, ends⟩).1.row, .int .u8 (Ev.release ⟨on, code, vol, start, len, ends⟩).2]) ∧ Below w.heap.size w w' := by
 have k1 := H9 fun W => zbd on code vol start len ends W
 obtain ⟨R, hR⟩ : ∃ R, R = Ev.release ⟨on, code, vol, start, len, ends⟩ := ⟨_, rfl⟩
 rw [← hR]
 obtain ⟨V, hV⟩ : ∃ V, V = Ev.Snd.valid ⟨on, code, vol, start, len, ends⟩ := ⟨_, rfl⟩
 unfold Ev.release at hR
 rw [← hV] at k1 hR
 have HR := H9 hR
 clear hV hR
 cases V <;> cases on
 all_goals
  go_enter Tryz.func66, Tryz.ntmps66
  go_wp2_with (go_at_call 126; refine (k1.out _).mono ?_; rintro e w1 ⟨rfl, rfl⟩)
  all_goals
   refine bodyPost_ret (v := .tuple #[.agg R.1.row, .int .u8 R.2]) ?_ rfl ⟨rfl, ?_⟩
   · have hR := HR.out
     first
      | (simp_all [results, Tryz.results66, go_sem, Ev.Snd.zero, Ev.Snd.row]; done)
      | (simp_all [results, Tryz.results66, go_sem, Ev.Snd.zero, Ev.Snd.row]; (repeat' split) <;> first | omega | (simp_all; done) | (simp_all; omega))
   · repeat (first | exact Below.refl _ _ | refine Below.drew ?_ | refine Below.setCell ?_ (by simp) _ | refine Below.alloc ?_ (by simp; try omega) _)
theorem zhg :
 Calls Tryz.prog 85 #[.agg #[.bool on, .int .u8 code, .int .u8 vol, .int .u32 start, .int .i64 len, .int .i64 ends]] w fun e w' => e = .returned (.tuple #[.agg (Ev.release ⟨on, code, vol, start, len, ends⟩).1.row, .int .u8 (Ev.release ⟨on, code, vol, start, len, ends⟩).2]) ∧ Below w.heap.size w w' := by
 have k1 := H9 fun W => zaq on code vol start len ends W
 obtain ⟨R, hR⟩ : ∃ R, R = Ev.release ⟨on, code, vol, start, len, ends⟩ := ⟨_, rfl⟩
 rw [← hR]
 obtain ⟨V, hV⟩ : ∃ V, V = Ev.Snd.valid ⟨on, code, vol, start, len, ends⟩ := ⟨_, rfl⟩
 unfold Ev.release at hR
 rw [← hV] at k1 hR
 have HR := H9 hR
 clear hV hR
 cases V <;> cases on
 all_goals
  go_enter Tryz.func85, Tryz.ntmps85
  go_wp2_with (go_at_call 68; refine (k1.out _).mono ?_; rintro e w1 ⟨rfl, rfl⟩)
  all_goals
   refine bodyPost_ret (v := .tuple #[.agg R.1.row, .int .u8 R.2]) ?_ rfl ⟨rfl, ?_⟩
   · have hR := HR.out
     first
      | (simp_all [results, Tryz.results85, go_sem, Ev.Snd.zero, Ev.Snd.row]; done)
      | (simp_all [results, Tryz.results85, go_sem, Ev.Snd.zero, Ev.Snd.row]; (repeat' split) <;> first | omega | (simp_all; done) | (simp_all; omega))
   · repeat (first | exact Below.refl _ _ | refine Below.drew ?_ | refine Below.setCell ?_ (by simp) _ | refine Below.alloc ?_ (by simp; try omega) _)
end
section
variable {α : Type} {row : α → List Value} {w : World} {B size : Nat} {A : Option Addr} {l : List α}
theorem RowsAt.take (h : RowsAt w B size row A l) (n : Nat) : RowsAt w B size row A (l.take n) := fun h0 => by
 obtain ⟨b, off, rfl, hb, hc⟩ := h (by simp at h0; omega)
 refine ⟨b, off, rfl, hb, fun i a ha j v hv => hc i a ?_ j v hv⟩
 rw [List.getElem?_take] at ha
 split at ha
 · exact ha
 · cases ha
theorem RowsAt.dropAt {b off : Nat} (h : RowsAt w B size row (some ⟨b, off, none⟩) l) (n : Nat) : RowsAt w B size row (some ⟨b, off + n * size, none⟩) (l.drop n) := fun h0 => by
 obtain ⟨b', off', e, hb, hc⟩ := h (by simp at h0; omega)
 injection e with e
 injection e with e1 e2
 subst e1 e2
 refine ⟨b, off + n * size, rfl, hb, fun i a ha j v hv => ?_⟩
 rw [List.getElem?_drop] at ha
 have := hc (n + i) a ha j v hv
 rw [← this]
 congr 2
 rw [Nat.add_mul]; omega
end
theorem Wts.take {w : World} {B : Nat} {A : Option Addr} {l : List TW} (h : Wts w B A l) (n : Nat) : Wts w B A (l.take n) := ⟨h.1.take n, fun a ha => h.2 a (List.mem_of_mem_take ha)⟩
theorem Wts.dropAt {w : World} {B b off : Nat} {l : List TW} (h : Wts w B (some ⟨b, off, none⟩) l) (n : Nat) : Wts w B (some ⟨b, off + n * 6, none⟩) (l.drop n) := ⟨h.1.dropAt n, fun a ha => h.2 a (List.mem_of_mem_drop ha)⟩
theorem Wts.form {w : World} {B : Nat} {A : Option Addr} {l : List TW} (h : Wts w B A l) : l = [] ∨ ∃ b off, A = some ⟨b, off, none⟩ := by
 rcases Nat.eq_zero_or_pos l.length with h0 | h0
 · exact .inl (List.eq_nil_of_length_eq_zero h0)
 · obtain ⟨b, off, e, _⟩ := h.1 h0
   exact .inr ⟨b, off, e⟩
theorem Wts.empty {w : World} {B : Nat} {A : Option Addr} : Wts w B A [] := ⟨RowsAt.nil, fun _ h => by cases h⟩
structure WtsIn (w : World) (lo hi : Nat) (A : Option Addr) (l : List TW) : Prop where
 rows : Wts w hi A l
 low : 0 < l.length → ∀ b off, A = some ⟨b, off, none⟩ → lo ≤ b
 plow : ∀ a ∈ l, 0 < a.w.m.pl.length → ∀ b off, a.B = some ⟨b, off, none⟩ → lo ≤ b
 cap : ∀ a ∈ l, a.w.m.pl.length ≤ a.c
theorem WtsIn.keep {w w' : World} {lo hi : Nat} {A : Option Addr} {l : List TW} (h : WtsIn w lo hi A l) (hk : ∀ p : Addr, lo ≤ p.block → p.block < hi → w'.cell? p = w.cell? p) : WtsIn w' lo hi A l := by
 refine ⟨⟨fun h0 => ?_, fun a ha h0 => ?_⟩, h.low, h.plow, h.cap⟩
 · obtain ⟨b, off, rfl, hb, hc⟩ := h.rows.1 h0
   have hlo := h.low h0 b off rfl
   exact ⟨b, off, rfl, hb, fun i a ha j v hv => (hk _ hlo hb).trans (hc i a ha j v hv)⟩
 · obtain ⟨b, off, e, hb, hc⟩ := h.rows.2 a ha h0
   have hlo := h.plow a ha h0 b off e
   exact ⟨b, off, e, hb, fun i hi => (hk _ hlo hb).trans (hc i hi)⟩
theorem WtsIn.more {w : World} {lo hi hi' : Nat} {A : Option Addr} {l : List TW} (h : WtsIn w lo hi A l) (hl : hi ≤ hi') : WtsIn w lo hi' A l := ⟨h.rows.more hl, h.low, h.plow, h.cap⟩
theorem WtsIn.empty {w : World} {lo hi : Nat} : WtsIn w lo hi none [] := ⟨Wts.nil, fun h => absurd h (by simp), (fun _ h => by cases h), fun _ h => by cases h⟩
theorem WtsIn.less {w : World} {lo lo' hi : Nat} {A : Option Addr} {l : List TW} (h : WtsIn w lo hi A l) (hl : lo' ≤ lo) : WtsIn w lo' hi A l :=
 ⟨h.rows, fun h0 b off e => Nat.le_trans hl (h.low h0 b off e), fun a ha h0 b off e => Nat.le_trans hl (h.plow a ha h0 b off e), h.cap⟩
theorem WtsIn.setCell {w : World} {lo hi : Nat} {A : Option Addr} {l : List TW} (h : WtsIn w lo hi A l) {p : Addr} (hp : p.block < lo) (u : Value) : WtsIn (w.setCell p u) lo hi A l :=
 h.keep fun q hq _ => World.cell?_setCell_other w p q u (fun e => by subst e; omega)
theorem WtsIn.below {w w' : World} {lo hi : Nat} {A : Option Addr} {l : List TW} (h : WtsIn w lo hi A l) {B : Nat} (hb : Below B w w') (hB : hi ≤ B) : WtsIn w' lo hi A l := h.keep fun q _ hq => hb.cell (by omega)
theorem QOwn.wtsIn {w : World} {base n c : Nat} {A : Option Addr} {l : List TW} (h : QOwn w base A n c l) : WtsIn w base w.heap.size A l :=
 ⟨h.wts, fun h0 b off e => (h.own.block b (by rw [e]; rfl)).1, h.new, h.cap⟩
theorem QOwn.setCell {w : World} {base n c : Nat} {A : Option Addr} {l : List TW} (h : QOwn w base A n c l) {p : Addr} (hp : p.block < base) (u : Value) : QOwn (w.setCell p u) base A n c l := by
 refine ⟨h.len, h.own.setCell (fun g hg e => ?_) u, fun a ha h0 => ?_, h.far, h.new, h.cap⟩
 · have := (h.own.block g hg).1
   omega
 · obtain ⟨b, off, e, hb, hc⟩ := h.pay a ha h0
   have hlo := h.new a ha h0 b off e
   exact ⟨b, off, e, by simpa [World.setCell] using hb, fun i hi => (World.cell?_setCell_other w p _ u (fun e => by subst e; simp at hp; omega)).trans (hc i hi)⟩
theorem QOwn.push {w : World} {base n c : Nat} {A : Option Addr} {l : List TW} (h : QOwn w base A n c l) (o : Obj) : QOwn (w.alloc o) base A n c l := h.below ((Below.refl _ _).alloc (Nat.le_refl _) _)
theorem QOwn.setRow {base n c g : Nat} {A : Option Addr} {l : List TW} (hg : g < base) : ∀ (vs : List Value) (w : World) (i : Nat), QOwn w base A n c l → QOwn (Go.Proofs.YtahbecinkciahaaGreat.setRow g w i vs) base A n c l
 | [], _, _, h => h
 | v :: vs, w, i, h => QOwn.setRow hg vs _ (i + 1) (QOwn.setCell h (by exact hg) v)
theorem WtsIn.setRow {lo hi g : Nat} {A : Option Addr} {l : List TW} (hg : g < lo) : ∀ (vs : List Value) (w : World) (i : Nat), WtsIn w lo hi A l → WtsIn (Go.Proofs.YtahbecinkciahaaGreat.setRow g w i vs) lo hi A l
 | [], _, _, h => h
 | v :: vs, w, i, h => WtsIn.setRow hg vs _ (i + 1) (WtsIn.setCell h (by exact hg) v)
def QueueN (n : Nat) (q : List Jb.Wt) (w : World) (e : Ending) (w' : World) : Prop :=
 ∃ (A' : Option Addr) (c' : Nat) (l' : List TW), e = .returned (.slice A' n c') ∧ l'.map TW.w = q ∧ QOwn w' w.heap.size A' n c' l' ∧ Below w.heap.size w w'
theorem zar (A : Option Addr) (l : List TW) (n c : Nat) (w : World) (B : Nat) (hB : B ≤ w.heap.size) (hn : l.length = n) (hl : n ≤ 100000) (hA : Wts w B A l) (hp : ∀ a ∈ l, a.w.m.pl.length ≤ 1000000) (q : List Jb.Wt) (hq : l.map TW.w = q) : Calls Tryz.prog 149 #[.slice A n c] w (QueueN n q w) := by
 refine (zgc A l n c w hn hl (hA.more hB) hp).mono ?_
 rintro e w' ⟨A', c', l', rfl, h1, h2, h3⟩
 rw [hn] at h2
 exact ⟨A', c', l', by rw [hn], h1.trans hq, h2, h3⟩
def RunR (le mo : Int) (on : Bool) (ze fi hi dn sp tr : Int) (q : List Jb.Wt) (la tw pd now : Int) (w : World) (e : Ending) (w' : World) : Prop :=
 ∃ (A1 : Option Addr) (c1 : Nat) (l1 : List TW) (A2 : Option Addr) (c2 : Nat) (l2 : List TW) (B : Nat),
  e = .returned (.tuple #[.agg #[.int .i64 le, .int .i64 mo, .int .i64 now, .bool on, .int .i64 ze, .int .i64 fi, .int .i64 hi, .int .i64 (Jb.maxSq dn (Jb.due now q)), .int .i64 sp, .int .i64 tr, .slice A2 l2.length c2, .int .i64 la, .int .i64 tw, .int .i64 (pd + (Jb.due now q).length)], .slice A1 l1.length c1]) ∧
  l1.map TW.w = Jb.due now q ∧ l2.map TW.w = Jb.left now q ∧ WtsIn w' w.heap.size B A1 l1 ∧ QOwn w' B A2 l2.length c2 l2 ∧ w.heap.size ≤ B ∧ B ≤ w'.heap.size ∧ (l1.length ≤ c1 ∧ c1 ≤ maxLen) ∧ Below w.heap.size w w'
theorem zgg (now : Int) (q : List Jb.Wt) : Jb.due now q = q.take (Jb.due now q).length ∧ Jb.left now q = q.drop (Jb.due now q).length := by
 have h := Jb.due_left now q
 constructor
 · conv => rhs; arg 2; rw [← h]
   rw [List.take_left]
 · conv => rhs; arg 2; rw [← h]
   rw [List.drop_left]
theorem zdu (d : Int) (l : List Jb.Wt) (x : Jb.Wt) : Jb.maxSq d (l ++ [x]) = max (Jb.maxSq d l) x.m.sq := by unfold Jb.maxSq; rw [List.foldl_append]; rfl
theorem zpb (le mo nw : Int) (on : Bool) (ze fi hi dn sp tr : Int) (A : Option Addr) (l : List TW) (n qc : Nat) (la tw pd now : Int) (w : World) (hn : l.length = n) (hl : n ≤ 200) (hcap : n ≤ qc) (hcm : qc ≤ maxLen) (hA : Wts w w.heap.size A l) (hp : ∀ a ∈ l, a.w.m.pl.length ≤ 1000000) (hpd : -9223372036854775808 ≤ pd ∧ pd ≤ 9223372036854775000)
 (d : Nat) (hd : d = (Jb.due now (l.map TW.w)).length) (hdl : d < n) : Calls Tryz.prog 102 #[.agg #[.int .i64 le, .int .i64 mo, .int .i64 nw, .bool on, .int .i64 ze, .int .i64 fi, .int .i64 hi, .int .i64 dn, .int .i64 sp, .int .i64 tr, .slice A n qc, .int .i64 la, .int .i64 tw, .int .i64 pd], .int .i64 now] w (RunR le mo on ze fi hi dn sp tr (l.map TW.w) la tw pd now w) := by
 subst hn
 unfold maxLen at hcm
 obtain ⟨b, off, rfl⟩ : ∃ b off, A = some ⟨b, off, none⟩ := by
  rcases hA.form with e | e
  · subst e; simp at hdl
  · exact e
 have h1 : (0 : Int) ≤ (d : Int) := by omega
 have h2 : (d : Int) ≤ (l.length : Int) := by omega
 have h3 : (d : Int) ≤ (qc : Int) := by omega
 have h4 : ¬qc = d := by omega
 have h5 : (l.length : Int) ≤ (qc : Int) := by omega
 have hR : firstLate now (l.map TW.w) = (d : Int) := by unfold firstLate; rw [← hd, if_neg (by simp; omega)]
 obtain ⟨W0, hW0⟩ : ∃ W0, W0 = ((w.alloc (.cells #[.int .i64 le, .int .i64 mo, .int .i64 nw, .bool on, .int .i64 ze, .int .i64 fi, .int .i64 hi, .int .i64 dn, .int .i64 sp, .int .i64 tr, .slice (some ⟨b, off, none⟩) l.length qc, .int .i64 la, .int .i64 tw, .int .i64 pd] 40)).alloc (.cells #[.int .i64 now] 3)).alloc (.cells #[.int .i64 0, .int .i64 0, .int .i64 0, .bool false, .int .i64 0, .int .i64 0, .int .i64 0, .int .i64 0, .int .i64 0, .int .i64 0, .slice none 0 0, .int .i64 0, .int .i64 0, .int .i64 0] 40) := ⟨_, rfl⟩
 have hU0 : Bel w W0 := by rw [hW0]; exact (((Bel.refl w).push _).push _).push _
 have hB0 : Blk W0 w.heap.size 40 #[.int .i64 le, .int .i64 mo, .int .i64 nw, .bool on, .int .i64 ze, .int .i64 fi, .int .i64 hi, .int .i64 dn, .int .i64 sp, .int .i64 tr, .slice (some ⟨b, off, none⟩) l.length qc, .int .i64 la, .int .i64 tw, .int .i64 pd] := by rw [hW0]; exact ((Blk.new w _ _).push _).push _
 have hB1 : Blk W0 (w.heap.size + 1) 3 #[.int .i64 now] := by rw [hW0]; exact (Blk.new1 w _ _ _).push _
 have hB2 : Blk W0 (w.heap.size + 1 + 1) 40 #[.int .i64 0, .int .i64 0, .int .i64 0, .bool false, .int .i64 0, .int .i64 0, .int .i64 0, .int .i64 0, .int .i64 0, .int .i64 0, .slice none 0 0, .int .i64 0, .int .i64 0, .int .i64 0] := by rw [hW0]; have := Blk.new ((w.alloc (.cells #[.int .i64 le, .int .i64 mo, .int .i64 nw, .bool on, .int .i64 ze, .int .i64 fi, .int .i64 hi, .int .i64 dn, .int .i64 sp, .int .i64 tr, .slice (some ⟨b, off, none⟩) l.length qc, .int .i64 la, .int .i64 tw, .int .i64 pd] 40)).alloc (.cells #[.int .i64 now] 3)) 40 #[.int .i64 0, .int .i64 0, .int .i64 0, .bool false, .int .i64 0, .int .i64 0, .int .i64 0, .int .i64 0, .int .i64 0, .int .i64 0, .slice none 0 0, .int .i64 0, .int .i64 0, .int .i64 0]; rw [zal] at this; exact this
 have hA0 : Wts W0 W0.heap.size (some ⟨b, off, none⟩) l := (hA.below hU0).more hU0.size
 have k1 := zdg (some ⟨b, off, none⟩) l l.length qc (w.heap.size + 1) now W0 rfl (by omega) hA0 (hB1.at 0 _ rfl) hB1.lt
 rw [hR] at k1
 rw [hW0] at k1
 have K1 := H9 k1
 have HW0 := H9 hW0
 have U0 := H9 hU0
 have BS := H9 hB0
 have BN := H9 hB1
 have BR := H9 hB2
 have HA := H9 hA0
 have HP := H9 hp
 have HD := H9 hd
 clear k1 hW0 hU0 hB0 hB1 hB2 hA0 hp hA hd hR
 go_enter Tryz.func102, Tryz.ntmps102
 go_wp2_with fail
 refine K1.out.mono ?_
 rw [← HW0.out]
 rintro e w1 ⟨rfl, hb1⟩
 have U1 := H9 (U0.out.later hb1)
 have BS1 := H9 (BS.out.later hb1)
 have BN1 := H9 (BN.out.later hb1)
 have BR1 := H9 (BR.out.later hb1)
 have HA1 := H9 (HA.out.later hb1)
 have g10 := BS1.out.at 10 _ rfl
 clear hb1 K1 HW0 U0 BS BN BR HA
 have HQ := H9 (zgg now (l.map TW.w))
 rw [← HD.out] at HQ
 have HPT := H9 (fun (a : TW) (ha : a ∈ l.take d) => HP.out a (List.mem_of_mem_take ha))
 have HPD := H9 (fun (a : TW) (ha : a ∈ l.drop d) => HP.out a (List.mem_of_mem_drop ha))
 have k2 := H9 (zar (some ⟨b, off, none⟩) (l.take d) d d w1 w1.heap.size (Nat.le_refl _) (by simp; omega) (by omega) (HA1.out.take d) HPT.out (Jb.due now (l.map TW.w)) (by rw [HQ.out.1, List.map_take]))
 go_wp2_with fail
 refine k2.out.mono ?_
 rintro e w2 ⟨A1, c1, l1, rfl, hm1, hq1, hb2⟩
 have HM1 := H9 hm1
 have Q1 := H9 hq1.wtsIn
 have HL1 := H9 hq1.len
 have HCA : Hid (l1.length ≤ c1 ∧ c1 ≤ maxLen) := H9 ⟨by rw [hq1.len]; exact hq1.own.cap, Owns.capm hq1.own⟩
 have U2 := H9 (U1.out.later hb2)
 have BS2 := H9 (BS1.out.later hb2)
 have BN2 := H9 (BN1.out.later hb2)
 have BR2 := H9 (BR1.out.later hb2)
 have HA2 := H9 (HA1.out.later hb2)
 have hs1 := BR1.out.lt
 have hs2 := hb2.size
 have k3 := H9 (zar (some ⟨b, off + d * 6, none⟩) (l.drop d) (l.length - d) (qc - d) w2 w2.heap.size (Nat.le_refl _) (by simp) (by omega) (HA2.out.dropAt d) HPD.out (Jb.left now (l.map TW.w)) (by rw [HQ.out.2, List.map_drop]))
 clear hb2 hm1 hq1 U1 BS1 BN1 BR1 HA1 k2
 clear g10
 have g10 := BS2.out.at 10 _ rfl
 go_wp2_with fail
 refine k3.out.mono ?_
 rintro e w3 ⟨A2, c2, l2, rfl, hm2, hq2, hb3⟩
 have HM2 := H9 hm2
 have Q2 := H9 hq2
 have Q1' := H9 (Q1.out.below hb3 (Nat.le_refl _))
 have U3 := H9 (U2.out.later hb3)
 have BS3 := H9 (BS2.out.later hb3)
 have BN3 := H9 (BN2.out.later hb3)
 have BR3 := H9 (BR2.out.later hb3)
 have hs3 := hb3.size
 clear hb3 hm2 hq2 U2 BS2 BN2 BR2 HA2 k3 Q1 g10
 have f13 := BS3.out.at 13 _ rfl
 have f10 := BS3.out.at 10 _ rfl
 have fz := BS3.out.frozen
 go_wp2_with fail
 go_loopg [38] d (fun gk i wr => ∃ k : Nat, gk + k = d ∧ i = .int .i64 k ∧ Hid (Blk wr w.heap.size 40 #[.int .i64 le, .int .i64 mo, .int .i64 nw, .bool on, .int .i64 ze, .int .i64 fi, .int .i64 hi, .int .i64 (Jb.maxSq dn ((Jb.due now (l.map TW.w)).take k)), .int .i64 sp, .int .i64 tr, .slice A2 (l.length - d) c2, .int .i64 la, .int .i64 tw, .int .i64 (pd + d)]) ∧ Hid (Blk wr (w.heap.size + 1) 3 #[.int .i64 now]) ∧ Hid (Blk wr (w.heap.size + 1 + 1) 40 #[.int .i64 0, .int .i64 0, .int .i64 0, .bool false, .int .i64 0, .int .i64 0, .int .i64 0, .int .i64 0, .int .i64 0, .int .i64 0, .slice none 0 0, .int .i64 0, .int .i64 0, .int .i64 0]) ∧ Hid (WtsIn wr w1.heap.size w2.heap.size A1 l1) ∧ Hid (QOwn wr w2.heap.size A2 (l.length - d) c2 l2) ∧ Hid (Bel w wr) ∧ Hid (w2.heap.size ≤ wr.heap.size))
 case atStart =>
  refine ⟨0, rfl, rfl, H9 ?_, H9 ?_, H9 ?_, H9 ?_, H9 ?_, H9 ?_, H9 ?_⟩
  · exact (BS3.out.set_ 10 (.slice A2 (l.length - d) c2)).set_ 13 (.int .i64 (pd + d))
  · exact (BN3.out.far (by simp) _).far (by simp) _
  · exact (BR3.out.far (by simp; omega) _).far (by simp; omega) _
  · exact (Q1'.out.setCell (by simp; omega) _).setCell (by simp; omega) _
  · exact (Q2.out.setCell (by simp; omega) _).setCell (by simp; omega) _
  · exact zai (zai U3.out (Nat.le_refl _) _) (Nat.le_refl _) _
  · simpa [World.setCell] using hs3
 case round =>
  obtain ⟨k, hgk, rfl, BSr, BNr, BRr, W1r, Q2r, Ur, HSr⟩ := hrel
  have hi0 : (0 : Int) ≤ (k : Int) := by omega
  have hz0 := BSr.out.lt
  have fzr := BSr.out.frozen
  by_cases hk : k < d
  rotate_left
  · obtain rfl : k = d := by omega
    have hi1 : (k : Int) ≤ (k : Int) := Int.le_refl _
    have p0 := BSr.out.at 0 _ rfl
    have p1 := BSr.out.at 1 _ rfl
    have p2 := BSr.out.at 2 _ rfl
    have p3 := BSr.out.at 3 _ rfl
    have p4 := BSr.out.at 4 _ rfl
    have p5 := BSr.out.at 5 _ rfl
    have p6 := BSr.out.at 6 _ rfl
    have p7 := BSr.out.at 7 _ rfl
    have p8 := BSr.out.at 8 _ rfl
    have p9 := BSr.out.at 9 _ rfl
    have p10 := BSr.out.at 10 _ rfl
    have p11 := BSr.out.at 11 _ rfl
    have p12 := BSr.out.at 12 _ rfl
    have p13 := BSr.out.at 13 _ rfl
    have r0 := BRr.out.at 0 _ rfl
    have r1 := BRr.out.at 1 _ rfl
    have r2 := BRr.out.at 2 _ rfl
    have r3 := BRr.out.at 3 _ rfl
    have r4 := BRr.out.at 4 _ rfl
    have r5 := BRr.out.at 5 _ rfl
    have r6 := BRr.out.at 6 _ rfl
    have r7 := BRr.out.at 7 _ rfl
    have r8 := BRr.out.at 8 _ rfl
    have r9 := BRr.out.at 9 _ rfl
    have r10 := BRr.out.at 10 _ rfl
    have r11 := BRr.out.at 11 _ rfl
    have r12 := BRr.out.at 12 _ rfl
    have r13 := BRr.out.at 13 _ rfl
    have n0 := BNr.out.at 0 _ rfl
    have rfz := BRr.out.frozen
    go_wp2_with fail
    have htk : (Jb.due now (l.map TW.w)).take k = Jb.due now (l.map TW.w) := List.take_of_length_le (Nat.le_of_eq HD.out.symm)
    rw [htk]
    have BF := Blk.setRow (BRr.out.far (p := ⟨w.heap.size, 2, none⟩) (by simp; omega) (.int .i64 now)) [.int .i64 le, .int .i64 mo, .int .i64 now, .bool on, .int .i64 ze, .int .i64 fi, .int .i64 hi, .int .i64 (Jb.maxSq dn (Jb.due now (l.map TW.w))), .int .i64 sp, .int .i64 tr, .slice A2 (l.length - k) c2, .int .i64 la, .int .i64 tw, .int .i64 (pd + k)] rfl
    have QF := QOwn.setRow (g := w.heap.size + 1 + 1) (by omega) [.int .i64 le, .int .i64 mo, .int .i64 now, .bool on, .int .i64 ze, .int .i64 fi, .int .i64 hi, .int .i64 (Jb.maxSq dn (Jb.due now (l.map TW.w))), .int .i64 sp, .int .i64 tr, .slice A2 (l.length - k) c2, .int .i64 la, .int .i64 tw, .int .i64 (pd + k)] _ 0 (Q2r.out.setCell (p := ⟨w.heap.size, 2, none⟩) (by simp; omega) (.int .i64 now))
    have WF := WtsIn.setRow (g := w.heap.size + 1 + 1) (by omega) [.int .i64 le, .int .i64 mo, .int .i64 now, .bool on, .int .i64 ze, .int .i64 fi, .int .i64 hi, .int .i64 (Jb.maxSq dn (Jb.due now (l.map TW.w))), .int .i64 sp, .int .i64 tr, .slice A2 (l.length - k) c2, .int .i64 la, .int .i64 tw, .int .i64 (pd + k)] _ 0 (W1r.out.setCell (p := ⟨w.heap.size, 2, none⟩) (by simp; omega) (.int .i64 now))
    have UF := below_setRow (g := w.heap.size + 1 + 1) (by omega) [.int .i64 le, .int .i64 mo, .int .i64 now, .bool on, .int .i64 ze, .int .i64 fi, .int .i64 hi, .int .i64 (Jb.maxSq dn (Jb.due now (l.map TW.w))), .int .i64 sp, .int .i64 tr, .slice A2 (l.length - k) c2, .int .i64 la, .int .i64 tw, .int .i64 (pd + k)] _ 0 (zai (p := ⟨w.heap.size, 2, none⟩) Ur.out (Nat.le_refl _) (.int .i64 now))
    have SF := zas (w.heap.size + 1 + 1) [.int .i64 le, .int .i64 mo, .int .i64 now, .bool on, .int .i64 ze, .int .i64 fi, .int .i64 hi, .int .i64 (Jb.maxSq dn (Jb.due now (l.map TW.w))), .int .i64 sp, .int .i64 tr, .slice A2 (l.length - k) c2, .int .i64 la, .int .i64 tw, .int .i64 (pd + k)] (wr.setCell ⟨w.heap.size, 2, none⟩ (.int .i64 now)) 0
    obtain ⟨W, hW⟩ : ∃ W, W = setRow (w.heap.size + 1 + 1) (wr.setCell ⟨w.heap.size, 2, none⟩ (.int .i64 now)) 0 [.int .i64 le, .int .i64 mo, .int .i64 now, .bool on, .int .i64 ze, .int .i64 fi, .int .i64 hi, .int .i64 (Jb.maxSq dn (Jb.due now (l.map TW.w))), .int .i64 sp, .int .i64 tr, .slice A2 (l.length - k) c2, .int .i64 la, .int .i64 tw, .int .i64 (pd + k)] := ⟨_, rfl⟩
    rw [← hW] at BF QF WF UF SF
    simp only [setRow, Nat.zero_add, Nat.reduceAdd] at hW
    rw [← hW]
    have hl2 : l2.length = l.length - k := Q2r.out.len
    have hl1 : l1.length = k := HL1.out
    rw [← hl2] at BF QF
    exact bodyPost_ret (v := .tuple #[.agg (List.toArray [.int .i64 le, .int .i64 mo, .int .i64 now, .bool on, .int .i64 ze, .int .i64 fi, .int .i64 hi, .int .i64 (Jb.maxSq dn (Jb.due now (l.map TW.w))), .int .i64 sp, .int .i64 tr, .slice A2 l2.length c2, .int .i64 la, .int .i64 tw, .int .i64 (pd + k)]), .slice A1 k c1]) (zat Tryz.results102 rfl (run_loadVar_row (P := Tryz.prog) _ _ _ _ _ _ _ BF Tryz.underlying40 rfl (by kernel_rfl)) rfl) rfl ⟨A1, c1, l1, A2, c2, l2, w2.heap.size, by rw [hl1, ← HD.out], HM1.out, HM2.out, WF.less (by omega), QF, by omega, by have := HSr.out; rw [SF]; simpa [World.setCell] using this, HCA.out, UF⟩
  have hi1 : (k : Int) < (d : Int) := by omega
  have hl1 : l1.length = d := HL1.out
  obtain ⟨a, ha⟩ : ∃ a, l1[k]? = some a := ⟨_, List.getElem?_eq_getElem (by omega)⟩
  obtain ⟨b9, off9, rfl, hbB, e0, e1, e2, e3, e4, e5⟩ := zcj W1r.out.rows.1 ha
  have hm : (Jb.due now (l.map TW.w))[k]? = some a.w := by rw [← HM1.out, List.getElem?_map, ha]; rfl
  have HM := H9 hm
  obtain ⟨⟨at0, ⟨sq0, ti0, mk0, ty0, pl0⟩⟩, B0, c0⟩ := a
  simp only at e0 e1 e2 e3 e4 e5 HM
  have hbw : b9 < wr.heap.size := Nat.lt_of_lt_of_le hbB HSr.out
  have p7 := BSr.out.at 7 _ rfl
  clear ha hm hl1
  go_wp2_with fail
  go_roundg (gk - 1)
  case measure => omega
  case rel =>
   refine ⟨k + 1, by omega, by go_num, H9 ?_, H9 ?_, H9 ?_, H9 ?_, H9 ?_, H9 ?_, H9 ?_⟩
   · rw [List.take_add_one, HM.out]
     simp only [Option.toList_some]
     rw [zdu]
     exact (BSr.out.set_ 7 _).push _
   · exact (BNr.out.far (by simp) _).push _
   · exact (BRr.out.far (by simp; omega) _).push _
   · exact (W1r.out.setCell (by simp; omega) _).below ((Below.refl _ _).alloc (Nat.le_refl _) _) (by have := HSr.out; simpa [World.setCell] using this)
   · exact (Q2r.out.setCell (by simp; omega) _).push _
   · exact Bel.push (zai Ur.out (Nat.le_refl _) _) _
   · have := HSr.out; simp [World.setCell]; omega
end Go.Proofs.YtahbecinkciahaaGreat
