/- Layer 28: Pack of the reference. -/
import Derived.Test.YtahbecinkciahaaGreatSs9Q
import Derived.Test.YtahbecinkciahaaGreatJtPutG1Q
import Derived.Test.YtahbecinkciahaaGreatSbDecsQ
import Derived.Test.YtahbecinkciahaaGreatJtCopyQ
import Derived.RegionTactic
import Derived.ChangeAlike
import Derived.Deep.RegionHeld3
import Derived.Laws.BitsAllLaws
import Derived.Laws.Rows
import Derived.Deep.LoopGhost
set_option linter.unusedVariables false
set_option linter.unusedSimpArgs false
set_option maxRecDepth 100000
set_option maxHeartbeats 12800000
namespace Go.Proofs.YtahbecinkciahaaGreat
attribute [local go_sem] zaa zad
open Go.RowKit
def Dlt.rowK (s : Int × Int) (zs : List Int) (k : Nat) : List Value := (List.range (4 + (k + 1) / 2)).map fun j => Value.int .u8 (Dlt.packAt s zs k j)
theorem Dlt.rowK_even (s : Int × Int) (zs : List Int) (k : Nat) (h : k % 2 = 0) : Dlt.rowK s zs (k + 1) = Dlt.rowK s zs k ++ [.int .u8 (16 * Dlt.codeAt s zs k)] := by
 unfold Dlt.rowK
 rw [show 4 + (k + 1 + 1) / 2 = (4 + (k + 1) / 2) + 1 by omega, List.range_succ, List.map_append]
 congr 1
 · refine List.map_congr_left fun j hj => ?_
   have hj' : j < 4 + (k + 1) / 2 := by simpa using hj
   rw [Dlt.packAt_set, if_neg (by omega)]
 · rw [List.map_singleton, Dlt.packAt_set, if_pos (by omega), (Dlt.part_even s zs k h).2]
theorem Dlt.rowK_odd (s : Int × Int) (zs : List Int) (k : Nat) (h : k % 2 = 1) : Dlt.rowK s zs (k + 1) = (Dlt.rowK s zs k).set (4 + k / 2) (.int .u8 (16 * Dlt.codeAt s zs (k - 1) + Dlt.codeAt s zs k)) := by
 unfold Dlt.rowK
 rw [show 4 + (k + 1 + 1) / 2 = 4 + (k + 1) / 2 by omega]
 refine List.ext_getElem (by simp) fun j h1 h2 => ?_
 have hj : j < 4 + (k + 1) / 2 := by simpa using h1
 rw [List.getElem_set]
 simp only [List.getElem_map, List.getElem_range]
 rw [Dlt.packAt_set]
 by_cases e : j = 4 + k / 2
 · rw [if_pos e, if_pos e.symm, (Dlt.part_odd s zs k h).2]
 · rw [if_neg e, if_neg (fun h => e h.symm)]
theorem Dlt.rowK_last (s : Int × Int) (zs : List Int) (k : Nat) (h : k % 2 = 1) : (Dlt.rowK s zs k)[4 + k / 2]? = some (.int .u8 (16 * Dlt.codeAt s zs (k - 1))) := by
 unfold Dlt.rowK
 rw [List.getElem?_map, List.getElem?_range (by omega)]
 show some (Value.int .u8 (Dlt.packAt s zs k (4 + k / 2))) = _
 rw [Dlt.packAt_body, (Dlt.part_odd s zs k h).1]
theorem Dlt.rowK_all (s : Int × Int) (zs : List Int) : Dlt.rowK s zs zs.length = (Dlt.packB s zs).map (Value.int .u8) := by
 unfold Dlt.rowK Dlt.packB
 rw [List.map_map]
 rfl
end Go.Proofs.YtahbecinkciahaaGreat
namespace Go.Proofs.YtahbecinkciahaaGreat
open Go.RowKit
def Dlt.encR (v i x : Int) : Int × Int × Int × Int := if Dlt.valid v i = true then (Dlt.code v i x, Dlt.nextV v i (Dlt.code v i x), Dlt.nextI i (Dlt.code v i x), 0) else (0, 0, 0, 2)
def Dlt.decR (v i c : Int) : Int × Int × Int × Int := if Dlt.valid v i = true then (if c ≤ 15 then (Dlt.nextV v i c, Dlt.nextV v i c, Dlt.nextI i c, 0) else (0, 0, 0, 3)) else (0, 0, 0, 2)
def Dlt.packR (v i : Int) (zs : List Int) : List Int × Int × Int × Int :=
 if Dlt.valid v i = true then (if zs.length ≤ 8000 then (Dlt.packB (v, i) zs, (Dlt.stAt (v, i) zs zs.length).1, (Dlt.stAt (v, i) zs zs.length).2, 0) else ([], 0, 0, 4)) else ([], 0, 0, 2)
def Dlt.unpR (bs : List Int) (n : Int) : List Int × Int × Int × Int :=
 if n < 0 ∨ 8000 < n then ([], 0, 0, 3) else if bs.length < 4 + (n.toNat + 1) / 2 then ([], 0, 0, 6) else
  if Dlt.okB bs n.toNat then (Dlt.unpackL bs n.toNat, (Dlt.dAt (Dlt.headS bs) bs n.toNat).1, (Dlt.dAt (Dlt.headS bs) bs n.toNat).2, 0) else ([], 0, 0, 5)
section
variable (v i x : Int) (w : World)
variable (A : Option Addr) (zs : List Int) (cap : Nat)
variable (bs : List Int) (n : Int)
theorem Dlt.unpackL_len (bs : List Int) (n : Nat) : (Dlt.unpackL bs n).length = n := by simp [Dlt.unpackL]
end
end Go.Proofs.YtahbecinkciahaaGreat
namespace Go.Proofs.YtahbecinkciahaaGreat
attribute [local go_sem ↓] zab zac
attribute [local go_sem] zaa zad
open Go.RowKit
def DecR (zs : List Int) (er : Int) (w : World) (e : Ending) (w' : World) : Prop := ∃ (A' : Option Addr) (c' : Nat), e = .returned (.tuple #[.slice A' zs.length c', .int .u8 er]) ∧ IntsNew w.heap.size w' .i16 A' zs ∧ Below w.heap.size w w'
theorem ziz (A : Option Addr) (bs : List Int) (cap : Nat) (n : Int) (w : World) (hA : IntsAt w w.heap.size .u8 A bs) (hz : Within 0 255 bs) (hcap : bs.length ≤ cap) (hmax : bs.length ≤ maxLen) :
 Calls Tryz.prog 94 #[.slice A bs.length cap, .int .i64 n] w fun e w' => ∃ (A' : Option Addr) (c' : Nat), e = .returned (.tuple #[.slice A' (Dlt.unpR bs n).1.length c', .agg #[.int .i64 (Dlt.unpR bs n).2.1, .int .i64 (Dlt.unpR bs n).2.2.1], .int .u8 (Dlt.unpR bs n).2.2.2]) ∧
  IntsNew w.heap.size w' .i16 A' (Dlt.unpR bs n).1 ∧ Below w.heap.size w w' := by
 unfold Dlt.unpR
 by_cases hr : n < 0 ∨ 8000 < n
 · rw [if_pos hr]
   refine (zhy n A bs.length cap w hr).mono ?_
   rintro e w' ⟨rfl, hb⟩
   exact ⟨none, 0, rfl, IntsNew.nil, hb⟩
 · rw [if_neg hr]
   obtain ⟨m, rfl⟩ := Int.eq_ofNat_of_zero_le (a := n) (by omega)
   rw [Int.toNat_natCast]
   by_cases hs : bs.length < 4 + (m + 1) / 2
   · rw [if_pos hs]
     refine (zhz m A bs.length cap w (by omega) hs).mono ?_
     rintro e w' ⟨rfl, hb⟩
     exact ⟨none, 0, rfl, IntsNew.nil, hb⟩
   · rw [if_neg hs]
     by_cases hk : Dlt.okB bs m
     · rw [if_pos hk]
       rcases Nat.eq_zero_or_pos m with h0 | h0
       · subst h0
         refine (zkf A bs cap w hA hz hk hcap).mono ?_
         rintro e w' ⟨A', c', rfl, h, hb⟩
         exact ⟨A', c', rfl, ⟨h, fun h0 => absurd h0 (by simp [Dlt.unpackL])⟩, hb⟩
       · refine (znc m A bs cap w (by omega) h0 hA hz hk hcap).mono ?_
         rintro e w' ⟨A', c', rfl, h⟩
         exact ⟨A', c', by rw [Dlt.unpackL_len], h⟩
     · rw [if_neg hk]
       refine (zhe m A bs cap w (by omega) hA hz (by omega) hk hmax).mono ?_
       rintro e w' ⟨rfl, hb⟩
       exact ⟨none, 0, rfl, IntsNew.nil, hb⟩
theorem ztn (n : Int) (A : Option Addr) (bs : List Int) (c b : Nat) (w : World) (hA : IntsAt w w.heap.size .u8 A bs) (hz : Within 0 255 bs) (h8 : bs.length ≤ 8000) (hb : Blk w b 5 #[.int .u8 1]) : Calls Tryz.prog 138 #[.slice A bs.length c, .int .i64 n, .pointer (some ⟨b, 0, none⟩)] w (DecR (bs.map Cmp.fromMuZ) 0 w) := by
 have k1 := H9 fun (W : World) hW => znb A bs c W hW hz h8
 have IA := H9 hA
 have BB := H9 hb
 have hlt := hb.lt
 clear hA hb hz
 go_enter Tryz.func138, Tryz.ntmps138
 have d0 := BB.out.at 0 _ rfl
 go_wp2_with fail
 refine (k1.out _ IA.out).mono ?_
 rintro e w1 ⟨A1, rfl, hI, hb1⟩
 clear d0
 go_wp2_with fail
 exact bodyPost_ret (v := .tuple #[.slice A1 bs.length bs.length, .int .u8 0]) (by simp [results, Tryz.results138, go_sem]) rfl ⟨A1, bs.length, by rw [List.length_map], hI, hb1⟩
theorem zus (n : Int) (A : Option Addr) (bs : List Int) (c b : Nat) (w : World) (hA : IntsAt w w.heap.size .u8 A bs) (hz : Within 0 255 bs) (h8 : bs.length ≤ 8000) (hb : Blk w b 5 #[.int .u8 2]) : Calls Tryz.prog 138 #[.slice A bs.length c, .int .i64 n, .pointer (some ⟨b, 0, none⟩)] w (DecR (bs.map Cmp.fromAZ) 0 w) := by
 have k1 := H9 fun (W : World) hW => zpi A bs c W hW hz h8
 have IA := H9 hA
 have BB := H9 hb
 have hlt := hb.lt
 clear hA hb hz
 go_enter Tryz.func138, Tryz.ntmps138
 have d0 := BB.out.at 0 _ rfl
 go_wp2_with fail
 refine (k1.out _ IA.out).mono ?_
 rintro e w1 ⟨A1, rfl, hI, hb1⟩
 clear d0
 go_wp2_with fail
 exact bodyPost_ret (v := .tuple #[.slice A1 bs.length bs.length, .int .u8 0]) (by simp [results, Tryz.results138, go_sem]) rfl ⟨A1, bs.length, by rw [List.length_map], hI, hb1⟩
theorem zsa (n : Int) (A : Option Addr) (bs : List Int) (c : Nat) (w : World) (hA : IntsAt w w.heap.size .u8 A bs) (hz : Within 0 255 bs) (hc : bs.length ≤ c) (hm : bs.length ≤ maxLen) : Calls Tryz.prog 93 #[.slice A bs.length c, .int .i64 n] w (DecR (Dlt.unpR bs n).1 (Dlt.unpR bs n).2.2.2 w) := by
 have k1 := H9 fun (W : World) hW => ziz A bs c n W hW hz hc hm
 generalize Dlt.unpR bs n = R at *
 obtain ⟨R1, R2, R3, R4⟩ := R
 have IA := H9 hA
 clear hA hz
 go_enter Tryz.func93, Tryz.ntmps93
 go_wp2_with fail
 refine (k1.out _ IA.out).mono ?_
 rintro e w1 ⟨A1, c1, rfl, hI, hb1⟩
 have HI := H9 hI
 have U := H9 hb1
 clear hI hb1
 go_wp2_with fail
 go_ret2
 exact ⟨A1, c1, rfl, HI.out.push _, Bel.push U.out _⟩
def DecodeR (d : List Int × Int) (w : World) (e : Ending) (w' : World) : Prop := ∃ (A' : Option Addr) (c' : Nat), e = .returned (.tuple #[.slice A' d.1.length c', .int .u32 d.2]) ∧ IntsNew w.heap.size w' .i16 A' d.1 ∧ Below w.heap.size w w'
theorem zto (bs : List Int) : (Dlt.unpR bs 160).1 = Sb.decS 96 bs ∧ ((Dlt.unpR bs 160).2.2.2 ≠ 0 → (Dlt.unpR bs 160).1 = []) := by
 have e : Sb.decS 96 bs = if Sb.Dlt.fits bs 160 then Dlt.unpackL bs 160 else [] := by unfold Sb.decS; rw [if_neg (by decide), if_neg (by decide), if_pos rfl]
 rw [e]
 unfold Dlt.unpR
 rw [if_neg (by decide), show (160 : Int).toNat = 160 from rfl]
 by_cases h1 : bs.length < 4 + (160 + 1) / 2
 · rw [if_pos h1, if_neg (fun h => by have := h.1; omega)]
   exact ⟨rfl, fun _ => rfl⟩
 rw [if_neg h1]
 by_cases h2 : Dlt.okB bs 160
 · rw [if_pos h2, if_pos (show Sb.Dlt.fits bs 160 from h2)]
   exact ⟨rfl, fun h => absurd rfl h⟩
 · rw [if_neg h2, if_neg (show ¬Sb.Dlt.fits bs 160 from h2)]
   exact ⟨rfl, fun _ => rfl⟩
theorem zni (A : Option Addr) (bs : List Int) (c : Nat) (seed : Int) (w : World) (hA : IntsAt w w.heap.size .u8 A bs) (hz : Within 0 255 bs) (h8 : bs.length ≤ 8000) (h1 : bs.length ≠ 1) : Calls Tryz.prog 112 #[.int .u8 13, .slice A bs.length c, .int .u32 seed] w (DecodeR ([], seed) w) := by
 have hl1 : ¬(bs.length : Int) = 1 := by omega
 clear hA hz
 go_enter Tryz.func112, Tryz.ntmps112
 go_wp2_with fail
 go_ret2
 exact ⟨none, 0, rfl, IntsNew.nil, Below.refl _ _⟩
theorem znj (A : Option Addr) (bs : List Int) (c : Nat) (seed : Int) (w : World) (hA : IntsAt w w.heap.size .u8 A bs) (hz : Within 0 255 bs) (h8 : bs.length ≤ 8000) (h1 : bs.length = 1) (s0 : 0 ≤ seed) (s1 : seed ≤ 4294967295) : Calls Tryz.prog 112 #[.int .u8 13, .slice A bs.length c, .int .u32 seed] w (DecodeR ((Ev.noise (bs.getD 0 0) seed 160).1, (Ev.noise (bs.getD 0 0) seed 160).2.1) w) := by
 obtain ⟨x, rfl⟩ : ∃ x, bs = [x] := by
  match bs, h1 with
  | [x], _ => exact ⟨x, rfl⟩
 obtain ⟨x0, x1⟩ := hz x (by simp)
 obtain ⟨b, off, rfl, hbB, qc⟩ := hA (by simp)
 have c0 := qc 0 (by simp)
 have k1 := H9 fun (W : World) => zpj x seed W 160 x0 x1 s0 s1 (by omega)
 have e : ((Ev.noise ([x].getD 0 0) seed 160).1, (Ev.noise ([x].getD 0 0) seed 160).2.1) = ((List.range 160).map (fun k => Ev.nsamp (Ev.amp (x / 6).toNat) seed k), Ev.seed seed 160) := by
  show ((Ev.noise x seed 160).1, (Ev.noise x seed 160).2.1) = _
  unfold Ev.noise
  rw [if_neg (by decide)]; rfl
 rw [e]
 clear qc e hz h1
 simp only [List.getD_cons_zero, Nat.add_zero] at c0
 go_enter Tryz.func112, Tryz.ntmps112
 go_wp2_with fail
 refine (k1.out _).mono ?_
 rintro e w1 ⟨A1, c1, rfl, hI, hb1⟩
 go_wp2_with fail
 go_ret2
 exact ⟨A1, c1, by simp, hI, hb1⟩
theorem znk (A : Option Addr) (bs : List Int) (c : Nat) (seed : Int) (w : World) (hA : IntsAt w w.heap.size .u8 A bs) (hz : Within 0 255 bs) (h8 : bs.length ≤ 8000) : Calls Tryz.prog 112 #[.int .u8 0, .slice A bs.length c, .int .u32 seed] w (DecodeR (bs.map Cmp.fromMuZ, seed) w) := by
 have HA := H9 hA
 clear hA
 go_enter Tryz.func112, Tryz.ntmps112
 go_wp2_with fail
 refine (zbz _).mono ?_
 rintro e w1 ⟨b, b1, b2, rfl, C, hb1⟩
 have kl := (zbq C 0 (by omega) (by omega)).2
 have BL := H9 C.l1
 have HB := H9 hb1
 have IA := H9 ((HA.out.later hb1).push (.cells (cLaw b1).cells 97))
 rw [show cAt b1 b2 0 = cLaw b1 from rfl, show speechB 0 = true from rfl] at kl
 simp only [cLaw, cDel] at kl
 clear C hb1 HA
 have BL2 := H9 (BL.out.push (.cells (cLaw b1).cells 97))
 go_wp2_with fail
 refine (ztn 160 A bs c b1 _ IA.out hz h8 BL2.out).mono ?_
 rintro e w2 ⟨A1, c1, rfl, hI, hb2⟩
 have hs := HB.out.size
 have HI := H9 (hI.less (m := w.heap.size) (by rw [zbd]; omega))
 have U := H9 (((Bel.later (Bel.refl w) HB.out).push (.cells (cLaw b1).cells 97)).later hb2)
 clear hI hb2 HB
 go_wp2_with fail
 go_ret2
 exact ⟨A1, c1, by simp, HI.out, U.out⟩
theorem zpt (A : Option Addr) (bs : List Int) (c : Nat) (seed : Int) (w : World) (hA : IntsAt w w.heap.size .u8 A bs) (hz : Within 0 255 bs) (h8 : bs.length ≤ 8000) : Calls Tryz.prog 112 #[.int .u8 8, .slice A bs.length c, .int .u32 seed] w (DecodeR (bs.map Cmp.fromAZ, seed) w) := by
 have HA := H9 hA
 clear hA
 go_enter Tryz.func112, Tryz.ntmps112
 go_wp2_with fail
 refine (zbz _).mono ?_
 rintro e w1 ⟨b, b1, b2, rfl, C, hb1⟩
 have kl := (zbq C 8 (by omega) (by omega)).2
 have BL := H9 C.l2
 have HB := H9 hb1
 have IA := H9 ((HA.out.later hb1).push (.cells (cLaw b2).cells 97))
 rw [show cAt b1 b2 8 = cLaw b2 from rfl, show speechB 8 = true from rfl] at kl
 simp only [cLaw, cDel] at kl
 clear C hb1 HA
 have BL2 := H9 (BL.out.push (.cells (cLaw b2).cells 97))
 go_wp2_with fail
 refine (zus 160 A bs c b2 _ IA.out hz h8 BL2.out).mono ?_
 rintro e w2 ⟨A1, c1, rfl, hI, hb2⟩
 have hs := HB.out.size
 have HI := H9 (hI.less (m := w.heap.size) (by rw [zbd]; omega))
 have U := H9 (((Bel.later (Bel.refl w) HB.out).push (.cells (cLaw b2).cells 97)).later hb2)
 clear hI hb2 HB
 go_wp2_with fail
 go_ret2
 exact ⟨A1, c1, by simp, HI.out, U.out⟩
theorem zlj (A : Option Addr) (bs : List Int) (c : Nat) (seed : Int) (w : World) (hA : IntsAt w w.heap.size .u8 A bs) (hz : Within 0 255 bs) (h8 : bs.length ≤ 8000) (hc : bs.length ≤ c) : Calls Tryz.prog 112 #[.int .u8 96, .slice A bs.length c, .int .u32 seed] w (DecodeR (Sb.decS 96 bs, seed) w) := by
 have HA := H9 hA
 clear hA
 have hm : bs.length ≤ maxLen := by unfold maxLen; omega
 obtain ⟨un1, un2⟩ := zto bs
 go_enter Tryz.func112, Tryz.ntmps112
 go_wp2_with fail
 refine (zbz _).mono ?_
 rintro e w1 ⟨b, b1, b2, rfl, C, hb1⟩
 have kl := (zbq C 96 (by omega) (by omega)).2
 have HB := H9 hb1
 have IA := H9 ((HA.out.later hb1).push (.cells cDel.cells 97))
 rw [show cAt b1 b2 96 = cDel from rfl, show speechB 96 = true from rfl] at kl
 simp only [cLaw, cDel] at kl
 clear C hb1 HA
 go_wp2_with fail
 refine (zsa 160 A bs c _ IA.out hz hc hm).mono ?_
 rintro e w2 ⟨A1, c1, rfl, hI, hb2⟩
 have hs := HB.out.size
 have HI := H9 (hI.less (m := w.heap.size) (by rw [zbd]; omega))
 have U := H9 (((Bel.later (Bel.refl w) HB.out).push (.cells cDel.cells 97)).later hb2)
 clear hI hb2 HB
 generalize Dlt.unpR bs 160 = R at *
 obtain ⟨R1, R2, R3, R4⟩ := R
 replace un1 : R1 = Sb.decS 96 bs := un1
 subst un1
 by_cases h4 : R4 = 0
 rotate_left
 · have e4 := H9 (show Sb.decS 96 bs = [] from un2 h4)
   clear un2
   go_wp2_with fail
   go_ret2
   exact ⟨none, 0, by rw [e4.out]; rfl, by rw [e4.out]; exact IntsNew.nil, U.out⟩
 subst h4
 clear un2
 go_wp2_with fail
 go_ret2
 exact ⟨A1, c1, by simp, HI.out, U.out⟩
theorem znl (A : Option Addr) (bs : List Int) (c : Nat) (seed : Int) (w : World) (hA : IntsAt w w.heap.size .u8 A bs) (hz : Within 0 255 bs) (h8 : bs.length ≤ 8000) (k : Int) (hk0 : 0 ≤ k) (hk1 : k ≤ 255) (h13 : ¬k = 13) (hs : ¬(k = 0 ∨ k = 8 ∨ k = 96)) : Calls Tryz.prog 112 #[.int .u8 k, .slice A bs.length c, .int .u32 seed] w (DecodeR ([], seed) w) := by
 have HA := H9 hA
 clear hA
 go_enter Tryz.func112, Tryz.ntmps112
 go_wp2_with fail
 refine (zbz _).mono ?_
 rintro e w1 ⟨b, b1, b2, rfl, C, hb1⟩
 have kl := (zbq C k (by omega) (by omega)).2
 have HB := H9 hb1
 have IA := H9 ((HA.out.later hb1).push (.cells cNil.cells 97))
 rw [show cAt b1 b2 k = cNil by unfold cAt; rw [if_neg (by omega), if_neg (by omega), if_neg (by omega)], zes hs] at kl
 simp only [cNil] at kl
 clear C hb1 HA
 go_wp2_with fail
 go_ret2
 exact ⟨none, 0, rfl, IntsNew.nil, (Bel.later (Bel.refl w) HB.out).push _⟩
theorem zja (k : Int) (A : Option Addr) (bs : List Int) (c : Nat) (seed : Int) (w : World) (hA : IntsAt w w.heap.size .u8 A bs) (hz : Within 0 255 bs) (h8 : bs.length ≤ 8000) (hk0 : 0 ≤ k) (hk1 : k ≤ 255) (s0 : 0 ≤ seed) (s1 : seed ≤ 4294967295) (hc : k = 96 → bs.length ≤ c) : Calls Tryz.prog 112 #[.int .u8 k, .slice A bs.length c, .int .u32 seed] w (DecodeR (Sb.dec k bs seed) w) := by
 unfold Sb.dec
 by_cases h13 : k = 13
 · subst h13
   rw [if_pos rfl]
   by_cases h1 : bs.length = 1
   · rw [if_pos h1]; exact znj A bs c seed w hA hz h8 h1 s0 s1
   · rw [if_neg h1]; exact zni A bs c seed w hA hz h8 h1
 rw [if_neg h13]
 by_cases h0 : k = 0
 · subst h0; exact znk A bs c seed w hA hz h8
 by_cases h2 : k = 8
 · subst h2; exact zpt A bs c seed w hA hz h8
 by_cases h3 : k = 96
 · subst h3; exact zlj A bs c seed w hA hz h8 (hc rfl)
 have e : Sb.decS k bs = [] := by unfold Sb.decS; rw [if_neg h0, if_neg h2, if_neg h3]
 rw [e]
 exact znl A bs c seed w hA hz h8 k hk0 hk1 h13 (by omega)
theorem SOwn.drew {w : World} {base n c : Nat} {A : Option Addr} {l : List TS} (h : SOwn w base A n c l) : SOwn w.drew base A n c l := ⟨h.len, h.own, h.pay, h.far, h.new⟩
theorem PB.set {W : World} {g : Nat} {p : Sb.Pt} {A : Option Addr} {n c : Nat} (h : PB W g p A n c) (i : Nat) (v : Value) (p' : Sb.Pt) (hp : (PL p A n c).set i v = PL p' A n c) : PB (W.setCell ⟨g, i, none⟩ v) g p' A n c := by
 have := Blk.set_ h i v
 unfold PB PA
 rw [← hp]
 unfold PA at this
 simpa using this
structure OkP (a : TW) : Prop where
 t0 : 0 ≤ a.w.m.ty
 t1 : a.w.m.ty ≤ 255
 z : Within 0 255 a.w.m.pl
 len : a.w.m.pl.length ≤ 8000
 cap : a.w.m.ty = 96 → a.w.m.pl.length ≤ a.c
theorem zen (k : Int) (pl : List Int) (s : Int) (h0 : 0 ≤ s) (h1 : s ≤ 4294967295) : 0 ≤ (Sb.dec k pl s).2 ∧ (Sb.dec k pl s).2 ≤ 4294967295 := by
 unfold Sb.dec
 split
 · split
   · have e : (Ev.noise (pl.getD 0 0) s 160).2.1 = Ev.seed s 160 := by unfold Ev.noise; rw [if_neg (by decide)]; rfl
     show 0 ≤ (Ev.noise (pl.getD 0 0) s 160).2.1 ∧ (Ev.noise (pl.getD 0 0) s 160).2.1 ≤ 4294967295
     rw [e]
     exact Sb.noise_seed 0 s h0 h1 160
   · exact ⟨h0, h1⟩
 · exact ⟨h0, h1⟩
theorem zbn : ∀ (l : List Jb.Wt) (s : Int), 0 ≤ s → s ≤ 4294967295 → 0 ≤ (Sb.sounds s l).1 ∧ (Sb.sounds s l).1 ≤ 4294967295
 | [], s, h0, h1 => ⟨h0, h1⟩
 | a :: l, s, h0, h1 => by
   have h := zen a.m.ty a.m.pl s h0 h1
   exact zbn l _ h.1 h.2
def SoundsR (p : Sb.Pt) (A : Option Addr) (n c : Nat) (l : List TW) (w : World) (e : Ending) (w' : World) : Prop :=
 ∃ (A' : Option Addr) (c' : Nat) (ls : List TS), e = .returned (.tuple #[.agg (PA { p with seed := (Sb.sounds p.seed (l.map TW.w)).1 } A n c), .slice A' l.length c']) ∧ ls.map TS.s = (Sb.sounds p.seed (l.map TW.w)).2 ∧ SOwn w' (w.heap.size + 3) A' l.length c' ls ∧ Below w.heap.size w w'
theorem zga (p : Sb.Pt) (s0 : 0 ≤ p.seed) (s1 : p.seed ≤ 4294967295) (A : Option Addr) (n c : Nat) (X : Array Value) (hX : X = PA p A n c) (PA1 : Option Addr) (l : List TW) (m pc : Nat) (w : World) (hm : l.length = m) (hml : m ≤ 100000) (hA : Wts w w.heap.size PA1 l) (hok : ∀ a ∈ l, OkP a) : Calls Tryz.prog 47 #[.agg X, .slice PA1 m pc] w (SoundsR p A n c l w) := by
 subst hm
 have HA := H9 hA
 have HP := H9 hok
 clear hA hok
 have B0 := H9 (((PB.new w X hX).push (.cells (PA Sb.Pt.zero none 0 0) 48)).push (.cells #[.slice none 0 0] 54))
 have B1 := H9 ((Blk.new1 w (.cells X 48) 48 (PA Sb.Pt.zero none 0 0)).push (.cells #[.slice none 0 0] 54))
 have B2 := H9 (Blk.new2 w (.cells X 48) (.cells (PA Sb.Pt.zero none 0 0) 48) 54 #[.slice none 0 0])
 have U0 := H9 ((((Bel.refl w).push (.cells X 48)).push (.cells (PA Sb.Pt.zero none 0 0) 48)).push (.cells #[.slice none 0 0] 54))
 have hmf : ∀ (fn : Fn) (first cap : Array Value) (w : World), (Instr.makeFunc fn first cap).run Tryz.prog w = .ok (.func fn first cap) w := fun _ _ _ _ => rfl
 have HS0 := H9 (show (0 : Int) ≤ p.seed ∧ p.seed ≤ 4294967295 from ⟨s0, s1⟩)
 clear hX s0 s1
 go_enter Tryz.func47, Tryz.ntmps47
 go_upto_region 2 with fail
 obtain ⟨W0, hW0⟩ : ∃ W, W = ((w.alloc (Obj.cells X 48)).alloc (Obj.cells (PA Sb.Pt.zero none 0 0) 48)).alloc (Obj.cells #[.slice none 0 0] 54) := ⟨_, rfl⟩
 change Code.wp _ _ _ _ (((w.alloc (Obj.cells X 48)).alloc (Obj.cells (PA Sb.Pt.zero none 0 0) 48)).alloc (Obj.cells #[.slice none 0 0] 54))
 rw [← hW0] at B0 B1 B2 U0 ⊢
 clear hW0
 go_upto_region 3 with fail
 go_wp2_with fail
 go_loopg [15] l.length (fun gk i wr => ∃ (k : Nat) (A' : Option Addr) (c' : Nat) (ls : List TS), gk + k = l.length ∧ i = .int .i64 k ∧ Hid (ls.map TS.s = (Sb.sounds p.seed ((l.map TW.w).take k)).2) ∧ Hid (SOwn wr (w.heap.size + 3) A' k c' ls) ∧ Hid (PB wr w.heap.size { p with seed := (Sb.sounds p.seed ((l.map TW.w).take k)).1 } A n c) ∧ Hid (Blk wr (w.heap.size + 1) 48 (PA Sb.Pt.zero none 0 0)) ∧ Hid (Blk wr (w.heap.size + 1 + 1) 54 #[.slice A' k c']) ∧ Hid (Bel w wr))
 case atStart => exact ⟨0, none, 0, [], rfl, rfl, H9 rfl, H9 SOwn.nil, B0, B1, B2, U0⟩
 case round =>
  obtain ⟨k, A', c', ls, hgk, rfl, HL, HO, B0, B1, B2, U⟩ := hrel
  have hi0 : (0 : Int) ≤ (k : Int) := by omega
  have hbs := B2.out.lt
  by_cases hk : k < l.length
  rotate_left
  · obtain rfl : k = l.length := by omega
    have hi1 : (l.length : Int) ≤ (l.length : Int) := Int.le_refl _
    rw [List.take_of_length_le (by simp)] at HL B0
    go_upto_region 10 with fail
    obtain ⟨q, hq⟩ : ∃ q : Sb.Pt, q = { p with seed := (Sb.sounds p.seed (l.map TW.w)).1 } := ⟨_, rfl⟩
    rw [← hq] at B0
    have HQ := H9 hq
    have V1 : Blk wr.drew (w.heap.size + 1) 48 (PL Sb.Pt.zero none 0 0).toArray := Blk.dr B1.out
    have VO : SOwn wr.drew (w.heap.size + 3) A' l.length c' ls := HO.out.drew
    have VU : Bel w wr.drew := Bel.drew U.out
    clear hq
    refine wp_region_held_drew (S := fun w' => Blk w' w.heap.size 48 (PL q A n c).toArray ∧ Blk w' (w.heap.size + 1 + 1) 54 #[.slice A' l.length c']) (by kernel_rfl) ⟨Blk.dr B0.out, Blk.dr B2.out⟩ (fun qH => ?_)
    refine tk1 (i := 0) (v := .agg (PA q A n c)) rfl (zbi rfl 48 (.tmp 2) rfl w.heap.size 0 rfl 48 (PL q A n c) (fun w h => h.1) 48 _ Tryz.underlying48 zag (Nat.le_refl 48) _ rfl rfl) qH ?_
    try simp only [ss9]
    refine tk1 (i := 1) (v := .slice A' l.length c') rfl (Or.inl ⟨by rfl, fun w h => by have c2 := h.2.at 0 _ rfl; clear h; go_simp; try with_reducible rfl⟩) qH ?_
    try simp only [ss9]
    refine wpAnyH_ready (rs := [2]) (by kernel_rfl) (by simp) ?_
    refine AllReadyH.cons (o := _) rfl (fun K hK => ?_) AllReadyH.nil
    refine zap rfl 48 (.tmp 4) (.tmp 39) rfl (w.heap.size + 1) 0 rfl 48 _ V1 (PL q A n c) rfl zag (Nat.le_refl 48) rfl (PL q A n c) rfl ?_
    intro WF BF OF
    refine hK.out _ _ ⟨OF.blk qH.1 (by omega), OF.blk qH.2 (by omega)⟩ (fun hHeld2 => ?_)
    clear hK K
    try simp only [ss9]
    refine tk1 (i := 3) (v := .slice A' l.length c') rfl (Or.inl ⟨by rfl, fun w _ => by go_simp; try with_reducible rfl⟩) hHeld2 ?_
    try simp only [ss9]
    refine wpAnyH_done (by kernel_rfl) ?_ _
    go_wp2_with fail
    refine bodyPost_ret (v := .tuple #[.agg (PA q A n c), .slice A' l.length c']) (zbt Tryz.results47 rfl (PB.load BF) rfl) rfl ⟨A', c', ls, by rw [HQ.out], HL.out, VO.only OF (by omega), OF.bel VU (by omega)⟩
  have hi1 : (k : Int) < (l.length : Int) := by omega
  obtain ⟨a, ha⟩ : ∃ a, l[k]? = some a := ⟨_, List.getElem?_eq_getElem hk⟩
  obtain ⟨b, off, rfl, hbB, e0, e1, e2, e3, e4, e5⟩ := zdh (HA.out.1.keep (fun p hp => U.out.cell hp)) ha
  have hpa := HP.out a (List.mem_of_getElem? ha)
  have hia := (HA.out.2 a (List.mem_of_getElem? ha)).keep (w' := wr) (fun p hp => U.out.cell hp)
  have hm : (l.map TW.w)[k]? = some a.w := by rw [List.getElem?_map, ha]; rfl
  have HM := H9 hm
  have hsd := zbn ((l.map TW.w).take k) p.seed HS0.out.1 HS0.out.2
  obtain ⟨⟨at0, ⟨sq0, ti0, mk0, ty0, pl0⟩⟩, S0, c0⟩ := a
  obtain ⟨t0, t1, tz, tl, tc⟩ := hpa
  simp only at e0 e1 e2 e3 e4 e5 t0 t1 tz tl tc hia HM
  have hsn : Hid (Sb.sounds p.seed ((l.map TW.w).take (k + 1)) = ((Sb.dec ty0 pl0 (Sb.sounds p.seed ((l.map TW.w).take k)).1).2, (Sb.sounds p.seed ((l.map TW.w).take k)).2 ++ [⟨at0, (Sb.dec ty0 pl0 (Sb.sounds p.seed ((l.map TW.w).take k)).1).1, []⟩])) := H9 (by rw [Sb.take_snoc HM.out, Sb.sounds_snoc])
  generalize Sb.sounds p.seed ((l.map TW.w).take k) = R at *
  obtain ⟨R1, R2⟩ := R
  simp only at hsd hsn HL B0
  obtain ⟨d0, d1⟩ := hsd
  have k1 := H9 fun (W : World) hW => zja ty0 S0 pl0 c0 R1 W hW tz tl t0 t1 d0 d1 tc
  have hds := H9 (zen ty0 pl0 R1 d0 d1)
  generalize Sb.dec ty0 pl0 R1 = D at *
  obtain ⟨D1, D2⟩ := D
  have IA := H9 (hia.more (Nat.le_trans (Nat.le_refl _) U.out.size))
  clear ha hm hia tz tl tc t0 t1
  have BX := H9 (Blk.new wr 105 #[.int .i64 at0, .int .i64 sq0, .int .i64 ti0, .bool mk0, .int .u8 ty0, .slice S0 pl0.length c0])
  obtain ⟨W1, hW1⟩ : ∃ W, W = wr.alloc (.cells #[.int .i64 at0, .int .i64 sq0, .int .i64 ti0, .bool mk0, .int .u8 ty0, .slice S0 pl0.length c0] 105) := ⟨_, rfl⟩
  have BB := H9 (show Below wr.heap.size wr W1 by rw [hW1]; exact (Below.refl _ _).alloc (Nat.le_refl _) _)
  rw [← hW1] at BX
  go_upto_region 6 with fail
  rw [← hW1]
  clear hW1 e0 e1 e2 e3 e4 e5
  replace B0 := H9 (B0.out.later BB.out)
  replace B1 := H9 (B1.out.later BB.out)
  replace B2 := H9 (B2.out.later BB.out)
  replace HO := H9 (HO.out.below BB.out)
  replace IA := H9 (IA.out.later BB.out)
  replace U := H9 (U.out.later BB.out)
  obtain ⟨gx, hgx⟩ : ∃ g, g = wr.heap.size := ⟨_, rfl⟩
  rw [← hgx] at BX ⊢
  have hg3 : w.heap.size + 3 ≤ gx := by omega
  clear BB hgx
  have x4 := BX.out.at 4 _ rfl
  have x5 := BX.out.at 5 _ rfl
  have sd := B0.out.cell 45 _ rfl
  go_wp2_with fail
  refine (k1.out _ IA.out).mono ?_
  rintro e w2 ⟨A1, c1, rfl, hI, hb2⟩
  clear x4 x5 sd
  have hfar : Hid (0 < D1.length → ∀ b off, A1 = some ⟨b, off, none⟩ → some b ≠ ownB A' ∧ w.heap.size + 3 ≤ b) := H9 fun h0 b off e => by
   have h1 := hI.2 h0 b off e
   have h2 := BX.out.lt
   refine ⟨fun he => ?_, by omega⟩
   have h3 := (HO.out.own.block b he.symm).2
   omega
  have HI := H9 hI.1
  replace B0 := H9 (B0.out.later hb2)
  replace B1 := H9 (B1.out.later hb2)
  replace B2 := H9 (B2.out.later hb2)
  replace BX := H9 (BX.out.later hb2)
  replace HO := H9 (HO.out.below hb2)
  replace U := H9 (U.out.later hb2)
  clear hb2 hI IA
  have sd := B0.out.cell 45 _ rfl
  have sz := Blk.frozen B0.out 45
  go_upto_region 8 with fail
  obtain ⟨W3, hW3⟩ : ∃ W, W = w2.setCell ⟨w.heap.size, 45, none⟩ (.int .u32 D2) := ⟨_, rfl⟩
  rw [← hW3]
  have OV : OnlyB w.heap.size w2 W3 := by rw [hW3]; exact OnlyB.setCell _ _ _ _
  replace B0 := H9 (show PB W3 w.heap.size { p with seed := D2 } A n c by rw [hW3]; exact B0.out.set 45 _ _ rfl)
  replace B1 := H9 (OV.blk B1.out (by omega))
  replace B2 := H9 (OV.blk B2.out (by omega))
  replace BX := H9 (OV.blk BX.out (by omega))
  replace HO := H9 (HO.out.only OV (by omega))
  replace U := H9 (OV.bel U.out (Nat.le_refl _))
  have HI2 : Hid (IntsAt W3 W3.heap.size .i16 A1 D1) := H9 fun h0 => by
   obtain ⟨b, off, e, hlt, hc⟩ := HI.out h0
   have := (hfar.out h0 b off e).2
   exact ⟨b, off, e, by rw [OV.2]; exact hlt, fun i hi => (OV.cell (show b ≠ w.heap.size by omega)).trans (hc i hi)⟩
  clear hW3 OV sd sz HI
  have x0 := BX.out.at 0 _ rfl
  have hbx := BX.out.lt
  go_wp2_with fail
  refine (ztg (w.heap.size + 3) (w.heap.size + 1 + 1) A' k c' ls at0 A1 D1 c1 _ B2.out HO.out (by omega) (by omega) (by omega) HI2.out hfar.out).mono ?_
  rintro e w4 ⟨rfl, A4, c4, B4, O4, K4⟩
  have hB2 := H9 B4
  have hHO := H9 O4
  replace B0 := H9 (K4.blk B0.out (by omega) (by omega))
  replace B1 := H9 (K4.blk B1.out (by omega) (by omega))
  replace U := H9 (K4.bel U.out (by omega) (by omega))
  clear B4 O4 K4 x0 hbx B2 HO BX
  go_wp2_with fail
  go_roundg (gk - 1)
  case measure => omega
  case rel =>
   refine ⟨k + 1, A4, c4, ls ++ [⟨⟨at0, D1, []⟩, A1, c1⟩], by omega, by go_num, H9 ?_, hHO, ?_, B1, hB2, U⟩
   · rw [hsn.out, List.map_append, HL.out]; rfl
   · rw [hsn.out]; exact B0
theorem WtsIn.only {W W' : World} {lo hi g : Nat} {A : Option Addr} {l : List TW} (h : WtsIn W lo hi A l) (ho : OnlyB g W W') (hg : g < lo) : WtsIn W' lo hi A l := h.keep fun p hp _ => ho.cell (by omega)
theorem WtsIn.step {W W' : World} {lo g : Nat} {A : Option Addr} {l : List TW} (h : WtsIn W lo W.heap.size A l) (ho : OnlyB g W W') (hg : g < lo) : WtsIn W' lo W'.heap.size A l := by rw [ho.2]; exact h.only ho hg
theorem WtsIn.later {W W' : World} {lo : Nat} {A : Option Addr} {l : List TW} (h : WtsIn W lo W.heap.size A l) (hb : Below W.heap.size W W') : WtsIn W' lo W'.heap.size A l := (h.below hb (Nat.le_refl _)).more hb.size
structure OkW (a : Jb.Wt) : Prop where
 t0 : 0 ≤ a.m.ty
 t1 : a.m.ty ≤ 255
 z : Within 0 255 a.m.pl
 len : a.m.pl.length ≤ 8000
theorem OkW.okP {a : TW} (h : OkW a.w) (hc : a.w.m.pl.length ≤ a.c) : OkP a := ⟨h.t0, h.t1, h.z, h.len, fun _ => hc⟩
theorem znm {l : List TW} {q : List Jb.Wt} (hl : l.map TW.w = q) (h : ∀ a ∈ q, OkW a) (hc : ∀ a ∈ l, a.w.m.pl.length ≤ a.c) : ∀ a ∈ l, OkP a := fun a ha => (h a.w (by rw [← hl]; exact List.mem_map_of_mem ha)).okP (hc a ha)
def PlayR (p : Sb.Pt) (now v : Int) (w : World) (e : Ending) (w' : World) : Prop :=
 ∃ (A' : Option Addr) (n' c' : Nat) (l' : List TW) (SA : Option Addr) (sc m : Nat) (ls : List TS) (base mid : Nat), e = .returned (.tuple #[.agg (PA (Sb.run p now).1 A' n' c'), .int .u8 v, .slice SA m sc, .int .u8 0]) ∧ l'.map TW.w = (Sb.run p now).1.jt.q ∧ l'.length = n' ∧ n' ≤ c' ∧ c' ≤ maxLen ∧ WtsIn w' w.heap.size mid A' l' ∧ mid ≤ base ∧ mid ≤ w'.heap.size ∧ ls.map TS.s = (Sb.run p now).2 ∧ w.heap.size ≤ base ∧ SOwn w' base SA m sc ls ∧ Below w.heap.size w w'
theorem zcs (p : Sb.Pt) (hw : p.wf) (A : Option Addr) (l : List TW) (n c : Nat) (X : Array Value) (hX : X = PA p A n c) (w : World) (hq : l.map TW.w = p.jt.q) (hn : l.length = n) (hl : n ≤ 100000) (hcap : n ≤ c) (hcm : c ≤ maxLen) (hA : Wts w w.heap.size A l) (hK : ∀ a ∈ l, I64 a.w.m.sq) (now v : Int) (he : (Jb.run p.jt now).2.2 = 0) (hO : ∀ a ∈ (Jb.run p.jt now).2.1, OkW a) (hm : (Jb.run p.jt now).2.1.length ≤ 100000) : Calls Tryz.prog 41 #[.agg X, .int .i64 now, .int .u8 v] w (PlayR p now v w) := by
 have B0 := H9 ((PB.new w X hX).push (.cells (PA Sb.Pt.zero none 0 0) 48))
 have B1 := H9 (Blk.new1 w (.cells X 48) 48 (PA Sb.Pt.zero none 0 0))
 have U0 := H9 (((Bel.refl w).push (.cells X 48)).push (.cells (PA Sb.Pt.zero none 0 0) 48))
 have HA := H9 ((hA.push (.cells X 48)).push (.cells (PA Sb.Pt.zero none 0 0) 48))
 have k1 := H9 fun (W : World) hW => zqf p.jt A l n c now W hq hn hl hcap hcm hW hK
 have HP : Hid (PlayR p now v w = fun e w' => ∃ (A' : Option Addr) (n' c' : Nat) (l' : List TW) (SA : Option Addr) (sc m : Nat) (ls : List TS) (base mid : Nat), e = .returned (.tuple #[.agg (PA { p with jt := (Jb.run p.jt now).1, seed := (Sb.sounds p.seed (Jb.run p.jt now).2.1).1 } A' n' c'), .int .u8 v, .slice SA m sc, .int .u8 0]) ∧ l'.map TW.w = (Jb.run p.jt now).1.q ∧ l'.length = n' ∧ n' ≤ c' ∧ c' ≤ maxLen ∧ WtsIn w' w.heap.size mid A' l' ∧ mid ≤ base ∧ mid ≤ w'.heap.size ∧ ls.map TS.s = (Sb.sounds p.seed (Jb.run p.jt now).2.1).2 ∧ w.heap.size ≤ base ∧ SOwn w' base SA m sc ls ∧ Below w.heap.size w w') := H9 rfl
 rw [HP.out]
 clear HP
 unfold JRunW at k1
 unfold JV at k1
 have HO := H9 hO
 obtain ⟨R, hR⟩ : ∃ R, R = Jb.run p.jt now := ⟨_, rfl⟩
 rw [← hR] at k1 HO he hm ⊢
 clear hR
 obtain ⟨R1, R2, R3⟩ := R
 obtain rfl : R3 = 0 := he
 have hs0 := hw.seed.1
 have hs1 := hw.seed.2
 clear hX hA hK hq hO
 go_enter Tryz.func41, Tryz.ntmps41
 go_upto_region 1 with fail
 change Code.wp _ _ _ _ ((w.alloc (Obj.cells X 48)).alloc (Obj.cells (PA Sb.Pt.zero none 0 0) 48))
 obtain ⟨W, hW⟩ : ∃ W, W = (w.alloc (Obj.cells X 48)).alloc (Obj.cells (PA Sb.Pt.zero none 0 0) 48) := ⟨_, rfl⟩
 rw [← hW] at B0 B1 U0 HA ⊢
 clear hW
 obtain ⟨x14, x15, x16, x17, x18, x19, x20, x21, x22, x23, x24, x25, x26, x27⟩ := B0.out.jt
 have hL := B1.out.lt
 go_wp2_with fail
 refine (k1.out _ HA.out).mono ?_
 rintro e w1 ⟨A1, c1, l1, A2, c2, l2, rfl, hl1, hl2, hW1, hW2, hc2, hm2, hb1, hc1, hm1⟩
 clear x14 x15 x16 x17 x18 x19 x20 x21 x22 x23 x24 x25 x26 x27
 replace U0 := H9 (U0.out.later hb1)
 replace B0 := H9 (B0.out.later hb1)
 replace B1 := H9 (B1.out.later hb1)
 have HL1 := H9 hl1
 have HL2 := H9 hl2
 have HOK := H9 (znm hl1 HO.out hW1.cap)
 have hlen1 : l1.length ≤ 100000 := by have := congrArg List.length hl1; simp at this hm; omega
 have BJ := H9 (Blk.new w1 40 (JW R1 A2 l2.length c2).toArray)
 obtain ⟨g1, hg1⟩ : ∃ g, g = w1.heap.size := ⟨_, rfl⟩
 have hs1' := U0.out.size
 have hb1lt := B1.out.lt
 obtain ⟨W1, hWW⟩ : ∃ W, W = w1.alloc (.cells (JW R1 A2 l2.length c2).toArray 40) := ⟨_, rfl⟩
 have BB := H9 (show Below w1.heap.size w1 W1 by rw [hWW]; exact (Below.refl _ _).alloc (Nat.le_refl _) _)
 have hg1' : Hid (g1 = w1.heap.size) := H9 hg1
 rw [← hg1, ← hWW] at BJ
 go_upto_region 4 with fail
 rw [← hg1]
 change Code.wp _ _ _ _ (w1.alloc (Obj.cells (JW R1 A2 l2.length c2).toArray 40))
 rw [← hWW]
 replace U0 := H9 (U0.out.later BB.out)
 replace B0 := H9 (B0.out.later BB.out)
 replace B1 := H9 (B1.out.later BB.out)
 have HW1 := H9 (hW1.later BB.out)
 have HW2 := H9 (hW2.later BB.out)
 clear hb1 hl1 hl2 hWW hg1 hW1 hW2 BB HA
 have hgl := Blk.lt B0.out
 go_upto_region 5 with (first | (refine zae rfl 40 (.tmp 10) rfl (g1) 0 rfl 40 (JW R1 A2 l2.length c2) BJ.out 14 _ Tryz.underlying40 zbh (show 0 + 14 ≤ 14 by decide) ((JW R1 A2 l2.length c2).toArray) (by rfl) rfl ?_) | (refine zaf rfl 40 (.tmp 27) (.tmp 26) rfl (w.heap.size) 14 rfl 48 (PL p A n c) B0.out (JW R1 A2 l2.length c2) rfl zbh (show 14 + 14 ≤ 48 by decide) rfl (PL { p with jt := R1 } A2 l2.length c2) rfl ?_; intro WF BF OF))
 obtain ⟨q1, hq1⟩ : ∃ q : Sb.Pt, q = { p with jt := R1 } := ⟨_, rfl⟩
 rw [← hq1] at BF
 have hW1 := H9 (HW1.out.step OF (by omega))
 have hW2 := H9 (HW2.out.step OF (by omega))
 replace U0 := H9 (OF.bel U0.out (Nat.le_refl _))
 replace B1 := H9 (OF.blk B1.out (by omega))
 replace B0 := H9 BF
 have k2 := H9 fun (W : World) hW => zga q1 (by rw [hq1]; exact hs0) (by rw [hq1]; exact hs1) A2 l2.length c2 (PA q1 A2 l2.length c2) rfl A1 l1 l1.length c1 W rfl hlen1 hW HOK.out
 unfold SoundsR at k2
 rw [HL1.out] at k2
 obtain ⟨q2, hq2⟩ : ∃ q : Sb.Pt, q = { q1 with seed := (Sb.sounds q1.seed R2).1 } := ⟨_, rfl⟩
 rw [← hq2] at k2
 have HQ1 := H9 hq1
 have HQ2 := H9 hq2
 clear hq1 hq2 BF OF HW1 HW2 BJ hs0 hs1
 go_wp2_with (first | (refine zae rfl 48 (.tmp 3) rfl (w.heap.size) 0 rfl 48 (PL q1 A2 l2.length c2) B0.out 48 _ Tryz.underlying48 zag (show 0 + 48 ≤ 48 by decide) (PA q1 A2 l2.length c2) (by rfl) rfl ?_) | fail)
 refine (k2.out _ hW1.out.rows).mono ?_
 rintro e w3 ⟨SA, sc, ls, rfl, hls, hso, hb3⟩
 have hbase : w.heap.size ≤ WF.heap.size := U0.out.size
 replace U0 := H9 (U0.out.later hb3)
 have B03 := H9 (PB.later B0.out hb3)
 have B13 := H9 (B1.out.later hb3)
 replace hW2 := H9 (hW2.out.below hb3 (Nat.le_refl _))
 have HLS := H9 hls
 have HSO := H9 hso
 have hsz3 := hb3.size
 clear hls hso hb3 hW1 B0 B1
 go_upto_region 6 with (first | (refine zaf rfl 48 (.tmp 3) (.tmp 32) rfl (w.heap.size) 0 rfl 48 (PL q1 A2 l2.length c2) B03.out (PL q2 A2 l2.length c2) rfl zag (show 0 + 48 ≤ 48 by decide) rfl (PL q2 A2 l2.length c2) rfl ?_; intro WG BG OG) | fail)
 have hW3 := H9 (hW2.out.only OG (by omega))
 have hGs : WF.heap.size ≤ WG.heap.size := by rw [OG.2]; exact hsz3
 have hsb : w.heap.size < WF.heap.size + 3 := by omega
 replace U0 := H9 (OG.bel U0.out (Nat.le_refl _))
 replace B13 := H9 (OG.blk B13.out (by omega))
 replace HSO := H9 (HSO.out.only OG hsb)
 have HBG := H9 BG
 clear BG OG hW2 B03
 have hg1l : w.heap.size + 1 < WF.heap.size + 3 := by have := hg1'.out; omega
 go_wp2_with (first | (refine zae rfl 48 (.tmp 3) rfl (w.heap.size) 0 rfl 48 (PL q2 A2 l2.length c2) HBG.out 48 _ Tryz.underlying48 zag (show 0 + 48 ≤ 48 by decide) (PA q2 A2 l2.length c2) (by rfl) rfl ?_) | (refine zaf rfl 48 (.tmp 6) (.tmp 34) rfl (w.heap.size + 1) 0 rfl 48 (PL Sb.Pt.zero none 0 0) B13.out (PL q2 A2 l2.length c2) rfl zag (show 0 + 48 ≤ 48 by decide) rfl (PL q2 A2 l2.length c2) rfl ?_; intro WH BH OH) | fail)
 have hHs : WF.heap.size ≤ WH.heap.size := by rw [OH.2]; exact hGs
 have hW4 := (hW3.out.only OH hL).less (lo' := w.heap.size) (by omega)
 refine bodyPost_ret (v := .tuple #[.agg (PA q2 A2 l2.length c2), .int .u8 v, .slice SA l1.length sc, .int .u8 0]) (zav Tryz.results41 rfl (PB.load BH) rfl rfl rfl) rfl ⟨A2, l2.length, c2, l2, SA, sc, l1.length, ls, WF.heap.size + 3, WF.heap.size, ?_, HL2.out, rfl, hc2, hm2, hW4, by omega, hHs, ?_, by omega, HSO.out.only OH hg1l, OH.bel U0.out (by omega)⟩
 · rw [HQ2.out, HQ1.out]
 · rw [HLS.out, HQ1.out]
theorem zdk {p : Sb.Pt} {now : Int} (h : Sb.chkT p now = 0) : p.valid = true ∧ now ≤ 281474976710656 ∧ p.jt.now ≤ now := by
 unfold Sb.chkT at h
 split at h
 · cases h
 · rename_i h1
   split at h
   · cases h
   · rename_i h2
     refine ⟨?_, by omega, by omega⟩
     cases hv : p.valid
     · exact absurd (Or.inl hv) h1
     · rfl
theorem zgl {p : Sb.Pt} (h : p.valid = true) : p.jt.ok := by
 unfold Sb.Pt.valid at h
 simp only [Bool.and_eq_true] at h
 have h3 : Jb.valid p.jt = true := h.1.1.2
 unfold Jb.valid at h3
 exact of_decide_eq_true h3
theorem zko {p : Sb.Pt} {now : Int} (h : Sb.chkT p now = 0) : (Jb.run p.jt now).2.2 = 0 ∧ (Jb.run p.jt now).2.1 = Jb.due now p.jt.q := by
 obtain ⟨h1, h2, h3⟩ := zdk h
 have h4 := zgl h1
 have h5 : Jb.chk p.jt now true = 0 := by
  unfold Jb.chk
  rw [if_neg (fun hh => by rcases hh with hh | hh | hh; exact hh h4; omega; cases hh), if_neg (by omega)]
 unfold Jb.run
 rw [if_pos h5]
 exact ⟨rfl, rfl⟩
theorem zjb {now : Int} {q : List Jb.Wt} (h : ∀ a ∈ q, OkW a) : ∀ a ∈ Jb.due now q, OkW a := fun a ha => h a ((List.takeWhile_sublist _).subset ha)
theorem zdw (now : Int) (q : List Jb.Wt) : (Jb.due now q).length ≤ q.length := (List.takeWhile_sublist _).length_le
def PlayV (p : Sb.Pt) (now : Int) (w : World) (e : Ending) (w' : World) : Prop :=
 ∃ (A' : Option Addr) (n' c' : Nat) (l' : List TW) (SA : Option Addr) (sc m : Nat) (ls : List TS) (base : Nat), e = .returned (.tuple #[.agg (PA (Sb.run p now).1 A' n' c'), .slice SA m sc, .int .u8 0]) ∧ l'.map TW.w = (Sb.run p now).1.jt.q ∧ l'.length = n' ∧ n' ≤ c' ∧ c' ≤ maxLen ∧ WtsIn w' w.heap.size w'.heap.size A' l' ∧ ls.map TS.s = (Sb.run p now).2 ∧ w.heap.size ≤ base ∧ SOwn w' base SA m sc ls ∧ Below w.heap.size w w'
theorem znn (p : Sb.Pt) (hw : p.wf) (A : Option Addr) (l : List TW) (n c : Nat) (X : Array Value) (hX : X = PA p A n c) (w : World) (hq : l.map TW.w = p.jt.q) (hn : l.length = n) (hl : n ≤ 100000) (hcap : n ≤ c) (hcm : c ≤ maxLen) (hA : Wts w w.heap.size A l) (hK : ∀ a ∈ l, I64 a.w.m.sq) (now : Int) (hc : Sb.chkT p now = 0) (hO : ∀ a ∈ p.jt.q, OkW a) : Calls Tryz.prog 15 #[.agg X, .int .i64 now] w (PlayV p now w) := by
 have B0 := H9 ((PB.new w X hX).push (.cells (PA Sb.Pt.zero none 0 0) 48))
 have B1 := H9 (Blk.new1 w (.cells X 48) 48 (PA Sb.Pt.zero none 0 0))
 have U0 := H9 (((Bel.refl w).push (.cells X 48)).push (.cells (PA Sb.Pt.zero none 0 0) 48))
 have HA := H9 ((hA.push (.cells X 48)).push (.cells (PA Sb.Pt.zero none 0 0) 48))
 obtain ⟨r1, r2⟩ := zko hc
 have hm : (Jb.run p.jt now).2.1.length ≤ 100000 := by
  rw [r2]
  have h1 := zdw now p.jt.q
  have h2 := congrArg List.length hq
  simp at h2
  omega
 have k1 := H9 fun (W : World) hW => zdr p hw A l n c (PA p A n c) rfl W hq hn hl hW hK now
 rw [hc] at k1
 have k2 := H9 fun (W : World) hW => zcs p hw A l n c (PA p A n c) rfl W hq hn hl hcap hcm hW hK now 0 r1 (by rw [r2]; exact zjb hO) hm
 unfold PlayR at k2
 unfold PlayV
 generalize Sb.run p now = R at *
 obtain ⟨q, R2⟩ := R
 clear hX hA hK hq hc hO r1 r2 hm hw
 go_enter Tryz.func15, Tryz.ntmps15
 go_upto_region 1 with fail
 change Code.wp _ _ _ _ ((w.alloc (Obj.cells X 48)).alloc (Obj.cells (PA Sb.Pt.zero none 0 0) 48))
 obtain ⟨W, hW⟩ : ∃ W, W = (w.alloc (Obj.cells X 48)).alloc (Obj.cells (PA Sb.Pt.zero none 0 0) 48) := ⟨_, rfl⟩
 rw [← hW] at B0 B1 U0 HA ⊢
 clear hW
 have hL := B1.out.lt
 go_wp2_with (first | (refine zae rfl 48 (.tmp 2) rfl (w.heap.size) 0 rfl 48 (PL p A n c) B0.out 48 _ Tryz.underlying48 zag (show 0 + 48 ≤ 48 by decide) (PA p A n c) (by rfl) rfl ?_) | fail)
 refine (k1.out _ HA.out).mono ?_
 rintro e w1 ⟨rfl, hb1⟩
 replace U0 := H9 (U0.out.later hb1)
 replace B0 := H9 (B0.out.later hb1)
 replace B1 := H9 (B1.out.later hb1)
 replace HA := H9 (HA.out.later hb1)
 have hL1 := B1.out.lt
 clear hb1
 go_wp2_with (first | (refine zae rfl 48 (.tmp 2) rfl (w.heap.size) 0 rfl 48 (PL p A n c) B0.out 48 _ Tryz.underlying48 zag (show 0 + 48 ≤ 48 by decide) (PA p A n c) (by rfl) rfl ?_) | fail)
 refine (k2.out _ HA.out).mono ?_
 rintro e w2 ⟨A2, n2, c2, l2, SA, sc, m, ls, base, mid, rfl, e1, e2, e3, e4, e5, em1, em2, e6, e7, e8, hb2⟩
 replace e5 := e5.more em2
 clear em1 em2
 replace U0 := H9 (U0.out.later hb2)
 replace B0 := H9 (B0.out.later hb2)
 replace B1 := H9 (B1.out.later hb2)
 have hus := U0.out.size
 have hs1 := hb2.size
 have HE1 := H9 e1
 have HE5 := H9 e5
 have HE6 := H9 e6
 have HE8 := H9 e8
 clear hb2 HA e1 e5 e6 e8
 subst e2
 go_upto_region 5 with (first | (refine zaf rfl 48 (.tmp 2) (.tmp 22) rfl (w.heap.size) 0 rfl 48 (PL p A n c) B0.out (PL q A2 l2.length c2) rfl zag (show 0 + 48 ≤ 48 by decide) rfl (PL q A2 l2.length c2) rfl ?_; intro WG BG OG) | fail)
 replace U0 := H9 (OG.bel U0.out (Nat.le_refl _))
 replace B1 := H9 (OG.blk B1.out (by omega))
 replace HE5 := H9 (HE5.out.step OG (by omega))
 replace HE8 := H9 (HE8.out.only OG (by omega))
 have HBG := H9 BG
 clear BG OG B0
 go_wp2_with (first | (refine zae rfl 48 (.tmp 2) rfl (w.heap.size) 0 rfl 48 (PL q A2 l2.length c2) HBG.out 48 _ Tryz.underlying48 zag (show 0 + 48 ≤ 48 by decide) (PA q A2 l2.length c2) (by rfl) rfl ?_) | (refine zaf rfl 48 (.tmp 4) (.tmp 26) rfl (w.heap.size + 1) 0 rfl 48 (PL Sb.Pt.zero none 0 0) B1.out (PL q A2 l2.length c2) rfl zag (show 0 + 48 ≤ 48 by decide) rfl (PL q A2 l2.length c2) rfl ?_; intro WH BH OH) | fail)
 refine bodyPost_ret (v := .tuple #[.agg (PA q A2 l2.length c2), .slice SA m sc, .int .u8 0]) (zaw Tryz.results15 rfl (PB.load BH) rfl rfl) rfl ⟨A2, l2.length, c2, l2, SA, sc, m, ls, base, rfl, HE1.out, rfl, e3, e4, (HE5.out.step OH hL1).less (by omega), HE6.out, by omega, HE8.out.only OH (by omega), OH.bel U0.out (by omega)⟩
def fromReg (i : Nat) : Code → Option Code
 | .seq (.region j ops d) b => if i = j then some (.seq (.region j ops d) b) else fromReg i b
 | .seq (.seq (.region j ops d) x) b => if i = j then some (.seq (.seq (.region j ops d) x) b) else fromReg i b
 | .seq a b => fromReg i b
 | _ => none
def firstWp (P : Program) : Code → (Exit → Act → World → Prop) → Act → World → Prop
 | .seq x y, Q => firstWp P x (Exit.then (y.wp P Q) Q)
 | c, Q => c.wp P Q
theorem zct {P : Program} {i : Nat} {o : Array Oper} {d : Bool} {y : Code} {Q : Exit → Act → World → Prop} {a : Act} {w : World} (h : ∀ K : Act → World → Prop, (∀ a w, y.wp P Q a w → K a w) → (Code.region i o d).wp P (Exit.then K Q) a w) : firstWp P (.seq (.region i o d) y) Q a w := h _ fun _ _ h => h
theorem zbe {P : Program} {i : Nat} {o : Array Oper} {d : Bool} {x y : Code} {Q : Exit → Act → World → Prop} {a : Act} {w : World} (h : ∀ K : Act → World → Prop, (∀ a w, y.wp P Q a w → K a w) → ∀ L : Act → World → Prop, (∀ a w, x.wp P (Exit.then K Q) a w → L a w) → (Code.region i o d).wp P (Exit.then L (Exit.then K Q)) a w) : firstWp P (.seq (.seq (.region i o d) x) y) Q a w := h _ (fun _ _ h => h) _ fun _ _ h => h
theorem zbp {P : Program} {x y : Code} {Q : Exit → Act → World → Prop} {K : Act → World → Prop} {a : Act} {w : World} (hk : ∀ a w, y.wp P Q a w → K a w) (h : x.wp P (Exit.then (y.wp P Q) Q) a w) : x.wp P (Exit.then K Q) a w :=
 Code.wp_mono (fun e a w q => by cases e <;> first | exact hk _ _ q | exact q) h
theorem zcw {P : Program} {x1 x2 y : Code} {Q : Exit → Act → World → Prop} {K1 K2 : Act → World → Prop} {a : Act} {w : World} (hk1 : ∀ a w, x2.wp P (Exit.then K2 Q) a w → K1 a w) (hk2 : ∀ a w, y.wp P Q a w → K2 a w)
 (h : x1.wp P (Exit.then (x2.wp P (Exit.then (y.wp P Q) Q)) (Exit.then (y.wp P Q) Q)) a w) : x1.wp P (Exit.then K1 (Exit.then K2 Q)) a w :=
 Code.wp_mono (fun e a w q => by
  cases e <;> first
   | exact hk1 _ _ (Code.wp_mono (fun e a w q => by cases e <;> first | exact hk2 _ _ q | exact q) q)
   | exact q) h
structure Rx where
 mrk : Bool
 ty : Int
 sq : Int
 ti : Int
 src : Int
 CA : Option Addr
 cn : Nat
 cc : Nat
 ex : Bool
 pr : Int
 EA : Option Addr
 en : Nat
 ec : Nat
 B : Option Addr
 pl : List Int
 pc : Nat
 pad : Int
def Rx.row (x : Rx) : Array Value := #[.bool x.mrk, .int .u8 x.ty, .int .u16 x.sq, .int .u32 x.ti, .int .u32 x.src, .slice x.CA x.cn x.cc, .bool x.ex, .int .u16 x.pr, .slice x.EA x.en x.ec, .slice x.B x.pl.length x.pc, .int .i64 x.pad]
def Rx.arr (x : Rx) : Sb.Arr := ⟨x.mrk, x.ty, x.sq, x.ti, x.pl⟩
structure RC (w : World) (p : Sb.Pt) (A : Option Addr) (l : List TW) (n c : Nat) (x : Rx) (now : Int) : Prop where
 q : l.map TW.w = p.jt.q
 len : l.length = n
 n5 : n ≤ 100000
 cap : n ≤ c
 cm : c ≤ maxLen
 av : Wts w w.heap.size A l
 sq : ∀ a ∈ l, I64 a.w.m.sq
 ok : ∀ a ∈ p.jt.q, OkW a
 s0 : 0 ≤ p.seed
 s1 : p.seed ≤ 4294967295
 ty0 : 0 ≤ x.ty
 ty1 : x.ty ≤ 255
 q0 : 0 ≤ x.sq
 q1 : x.sq ≤ 65535
 t0 : 0 ≤ x.ti
 t1 : x.ti ≤ 4294967295
 h15 : x.pl.length ≤ 1500
 pl : IntsAt w w.heap.size .u8 x.B x.pl
 n0 : -281474976710656 ≤ now
 n1 : now ≤ 281474976710656
theorem RC.with {w : World} {p p' : Sb.Pt} {A : Option Addr} {l : List TW} {n c : Nat} {x : Rx} {now : Int} (h : RC w p A l n c x now) (hj : p'.jt = p.jt) (hs : p'.seed = p.seed) : RC w p' A l n c x now :=
 ⟨by rw [hj]; exact h.q, h.len, h.n5, h.cap, h.cm, h.av, h.sq, by rw [hj]; exact h.ok, by rw [hs]; exact h.s0, by rw [hs]; exact h.s1, h.ty0, h.ty1, h.q0, h.q1, h.t0, h.t1, h.h15, h.pl, h.n0, h.n1⟩
structure RS (w W : World) (p : Sb.Pt) (A : Option Addr) (n c : Nat) (x : Rx) : Prop where
 b0 : PB W w.heap.size p A n c
 b1 : Blk W (w.heap.size + 1) 51 x.row
 b2 : Blk W (w.heap.size + 1 + 1) 48 (PA Sb.Pt.zero none 0 0)
 u : Bel w W
section
variable {w W W' : World} {p p' : Sb.Pt} {A A' : Option Addr} {n n' c c' : Nat} {x : Rx}
theorem RS.later (h : RS w W p A n c x) (hb : Below W.heap.size W W') : RS w W' p A n c x := ⟨h.b0.later hb, h.b1.later hb, h.b2.later hb, h.u.later hb⟩
theorem RS.push (h : RS w W p A n c x) (o : Obj) : RS w (W.alloc o) p A n c x := h.later ((Below.refl _ _).alloc (Nat.le_refl _) _)
theorem RS.over (h : RS w W p A n c x) (ho : OnlyB w.heap.size W W') (hb : PB W' w.heap.size p' A' n' c') : RS w W' p' A' n' c' x := ⟨hb, ho.blk h.b1 (by omega), ho.blk h.b2 (by omega), ho.bel h.u (Nat.le_refl _)⟩
theorem RS.c0 (h : RS w W p A n c x) : W.cell? ⟨w.heap.size + 1, 0, none⟩ = some (.bool x.mrk) := h.b1.at 0 _ rfl
theorem RS.c1 (h : RS w W p A n c x) : W.cell? ⟨w.heap.size + 1, 1, none⟩ = some (.int .u8 x.ty) := h.b1.at 1 _ rfl
theorem RS.c2 (h : RS w W p A n c x) : W.cell? ⟨w.heap.size + 1, 2, none⟩ = some (.int .u16 x.sq) := h.b1.at 2 _ rfl
theorem RS.c3 (h : RS w W p A n c x) : W.cell? ⟨w.heap.size + 1, 3, none⟩ = some (.int .u32 x.ti) := h.b1.at 3 _ rfl
theorem RS.c9 (h : RS w W p A n c x) : W.cell? ⟨w.heap.size + 1, 9, none⟩ = some (.slice x.B x.pl.length x.pc) := h.b1.at 9 _ rfl
theorem RS.far (h : RS w W p A n c x) {g : Nat} (ho : OnlyB g W W') (h0 : w.heap.size ≠ g) (h1 : g ≠ w.heap.size + 1) (h2 : g ≠ w.heap.size + 1 + 1) (hg : w.heap.size ≤ g) : RS w W' p A n c x := ⟨ho.blk h.b0 h0, ho.blk h.b1 (Ne.symm h1), ho.blk h.b2 (Ne.symm h2), ho.bel h.u hg⟩
theorem RS.set (h : RS w W p A n c x) (i : Nat) (v : Value) (hp : (PL p A n c).set i v = PL p' A n c) : RS w (W.setCell ⟨w.heap.size, i, none⟩ v) p' A n c x := h.over (OnlyB.setCell _ _ _ _) (h.b0.set i v p' hp)
end
def RecvR (R : Sb.Pt × Int × List Sb.Sd) (w : World) (e : Ending) (w' : World) : Prop :=
 ∃ (A' : Option Addr) (n' c' : Nat) (l' : List TW) (SA : Option Addr) (sc m : Nat) (ls : List TS) (base : Nat), e = .returned (.tuple #[.agg (PA R.1 A' n' c'), .int .u8 R.2.1, .slice SA m sc, .int .u8 0]) ∧ l'.map TW.w = R.1.jt.q ∧ l'.length = n' ∧ n' ≤ c' ∧ c' ≤ maxLen ∧ WtsIn w' w.heap.size w'.heap.size A' l' ∧ ls.map TS.s = R.2.2 ∧ w.heap.size ≤ base ∧ SOwn w' base SA m sc ls ∧ Below w.heap.size w w'
def AllL : List (Nat × Value) → List Value → Prop
 | [], _ => True
 | (k, v) :: L, xs => xs[k]? = some v ∧ AllL L xs
def AllS : List (Nat × Value) → (Nat → Value) → Prop
 | [], _ => True
 | (k, v) :: L, s => s k = v ∧ AllS L s
def Fr (n : Nat) (L : List (Nat × Value)) (a : Act) : Prop := ∃ s : Nat → Value, a = ⟨((List.range n).map s).toArray, []⟩ ∧ AllS L s
theorem AllL.s {xs : List Value} : ∀ {L : List (Nat × Value)}, AllL L xs → AllS L fun k => xs.getD k undef
 | [], _ => trivial
 | (k, v) :: L, h => ⟨by show xs.getD k undef = v; rw [List.getD_eq_getElem?_getD, h.1]; rfl, AllL.s h.2⟩
theorem Fr.mk {n : Nat} {L : List (Nat × Value)} {xs : List Value} (h : xs.length = n) (hL : AllL L xs) : Fr n L ⟨xs.toArray, []⟩ := by
 refine ⟨fun k => xs.getD k undef, ?_, hL.s⟩
 congr 2
 apply List.ext_getElem
 · simp [h]
 · intro k h1 h2
   simp [List.getElem?_eq_getElem h1]
theorem r164 (s : Nat → Value) : ((List.range 164).map s).toArray = #[s 0, s 1, s 2, s 3, s 4, s 5, s 6, s 7, s 8, s 9, s 10, s 11, s 12, s 13, s 14, s 15, s 16, s 17, s 18, s 19, s 20, s 21, s 22, s 23, s 24, s 25, s 26, s 27, s 28, s 29, s 30, s 31, s 32, s 33, s 34, s 35, s 36, s 37, s 38, s 39, s 40, s 41, s 42, s 43, s 44, s 45, s 46, s 47, s 48, s 49, s 50, s 51, s 52, s 53, s 54, s 55, s 56, s 57, s 58, s 59, s 60, s 61, s 62, s 63, s 64, s 65, s 66, s 67, s 68, s 69, s 70, s 71, s 72, s 73, s 74, s 75, s 76, s 77, s 78, s 79, s 80, s 81, s 82, s 83, s 84, s 85, s 86, s 87, s 88, s 89, s 90, s 91, s 92, s 93, s 94, s 95, s 96, s 97, s 98, s 99, s 100, s 101, s 102, s 103, s 104, s 105, s 106, s 107, s 108, s 109, s 110, s 111, s 112, s 113, s 114, s 115, s 116, s 117, s 118, s 119, s 120, s 121, s 122, s 123, s 124, s 125, s 126, s 127, s 128, s 129, s 130, s 131, s 132, s 133, s 134, s 135, s 136, s 137, s 138, s 139, s 140, s 141, s 142, s 143, s 144, s 145, s 146, s 147, s 148, s 149, s 150, s 151, s 152, s 153, s 154, s 155, s 156, s 157, s 158, s 159, s 160, s 161, s 162, s 163] := rfl
def FrA (g : Nat) (now : Int) (a : Act) : Prop := Fr 164 [(1, .int .i64 now), (3, .pointer (some ⟨g, 0, none⟩)), (5, .pointer (some ⟨g + 1, 0, none⟩)), (6, .pointer (some ⟨g + 1 + 1, 0, none⟩))] a
theorem FrA.mk {g : Nat} {now : Int} {xs : List Value} (h : xs.length = 164 := by rfl) (hL : AllL [(1, .int .i64 now), (3, .pointer (some ⟨g, 0, none⟩)), (5, .pointer (some ⟨g + 1, 0, none⟩)), (6, .pointer (some ⟨g + 1 + 1, 0, none⟩))] xs := by exact ⟨rfl, rfl, rfl, rfl, trivial⟩) : FrA g now ⟨xs.toArray, []⟩ := Fr.mk h hL
def FrB (g : Nat) (now : Int) (gt : Nat) (kn : Bool) (a : Act) : Prop := Fr 164 [(1, .int .i64 now), (3, .pointer (some ⟨g, 0, none⟩)), (5, .pointer (some ⟨g + 1, 0, none⟩)), (6, .pointer (some ⟨g + 1 + 1, 0, none⟩)), (11, .pointer (some ⟨gt, 0, none⟩)), (12, .bool kn)] a
theorem FrB.mk {g : Nat} {now : Int} {gt : Nat} {kn : Bool} {xs : List Value} (h : xs.length = 164 := by rfl) (hL : AllL [(1, .int .i64 now), (3, .pointer (some ⟨g, 0, none⟩)), (5, .pointer (some ⟨g + 1, 0, none⟩)), (6, .pointer (some ⟨g + 1 + 1, 0, none⟩)), (11, .pointer (some ⟨gt, 0, none⟩)), (12, .bool kn)] xs := by exact ⟨rfl, rfl, rfl, rfl, rfl, rfl, trivial⟩) : FrB g now gt kn ⟨xs.toArray, []⟩ := Fr.mk h hL
def FrU (g : Nat) (now : Int) (gt : Nat) (on : Bool) (fn : Int) (ok : Bool) (a : Act) : Prop := Fr 164 [(1, .int .i64 now), (3, .pointer (some ⟨g, 0, none⟩)), (5, .pointer (some ⟨g + 1, 0, none⟩)), (6, .pointer (some ⟨g + 1 + 1, 0, none⟩)), (11, .pointer (some ⟨gt, 0, none⟩)), (13, .bool on), (15, .int .i64 fn), (16, .bool ok)] a
theorem FrU.mk {g : Nat} {now : Int} {gt : Nat} {on : Bool} {fn : Int} {ok : Bool} {xs : List Value} (h : xs.length = 164 := by rfl) (hL : AllL [(1, .int .i64 now), (3, .pointer (some ⟨g, 0, none⟩)), (5, .pointer (some ⟨g + 1, 0, none⟩)), (6, .pointer (some ⟨g + 1 + 1, 0, none⟩)), (11, .pointer (some ⟨gt, 0, none⟩)), (13, .bool on), (15, .int .i64 fn), (16, .bool ok)] xs := by exact ⟨rfl, rfl, rfl, rfl, rfl, rfl, rfl, rfl, trivial⟩) : FrU g now gt on fn ok ⟨xs.toArray, []⟩ := Fr.mk h hL
def FrC (g : Nat) (now : Int) (gt : Nat) (on : Bool) (fn : Int) (a : Act) : Prop := Fr 164 [(1, .int .i64 now), (3, .pointer (some ⟨g, 0, none⟩)), (5, .pointer (some ⟨g + 1, 0, none⟩)), (6, .pointer (some ⟨g + 1 + 1, 0, none⟩)), (11, .pointer (some ⟨gt, 0, none⟩)), (13, .bool on), (15, .int .i64 fn)] a
theorem FrC.mk {g : Nat} {now : Int} {gt : Nat} {on : Bool} {fn : Int} {xs : List Value} (h : xs.length = 164 := by rfl) (hL : AllL [(1, .int .i64 now), (3, .pointer (some ⟨g, 0, none⟩)), (5, .pointer (some ⟨g + 1, 0, none⟩)), (6, .pointer (some ⟨g + 1 + 1, 0, none⟩)), (11, .pointer (some ⟨gt, 0, none⟩)), (13, .bool on), (15, .int .i64 fn)] xs := by exact ⟨rfl, rfl, rfl, rfl, rfl, rfl, rfl, trivial⟩) : FrC g now gt on fn ⟨xs.toArray, []⟩ := Fr.mk h hL
def FrE (g : Nat) (now : Int) (on : Bool) (fn t : Int) (a : Act) : Prop := Fr 164 [(1, .int .i64 now), (3, .pointer (some ⟨g, 0, none⟩)), (5, .pointer (some ⟨g + 1, 0, none⟩)), (6, .pointer (some ⟨g + 1 + 1, 0, none⟩)), (13, .bool on), (15, .int .i64 fn), (17, .int .i64 t)] a
theorem FrE.mk {g : Nat} {now : Int} {on : Bool} {fn t : Int} {xs : List Value} (h : xs.length = 164 := by rfl) (hL : AllL [(1, .int .i64 now), (3, .pointer (some ⟨g, 0, none⟩)), (5, .pointer (some ⟨g + 1, 0, none⟩)), (6, .pointer (some ⟨g + 1 + 1, 0, none⟩)), (13, .bool on), (15, .int .i64 fn), (17, .int .i64 t)] xs := by exact ⟨rfl, rfl, rfl, rfl, rfl, rfl, rfl, trivial⟩) : FrE g now on fn t ⟨xs.toArray, []⟩ := Fr.mk h hL
def FrD (g : Nat) (now fn t : Int) (a : Act) : Prop := Fr 164 [(1, .int .i64 now), (3, .pointer (some ⟨g, 0, none⟩)), (5, .pointer (some ⟨g + 1, 0, none⟩)), (6, .pointer (some ⟨g + 1 + 1, 0, none⟩)), (15, .int .i64 fn), (17, .int .i64 t)] a
theorem FrD.mk {g : Nat} {now fn t : Int} {xs : List Value} (h : xs.length = 164 := by rfl) (hL : AllL [(1, .int .i64 now), (3, .pointer (some ⟨g, 0, none⟩)), (5, .pointer (some ⟨g + 1, 0, none⟩)), (6, .pointer (some ⟨g + 1 + 1, 0, none⟩)), (15, .int .i64 fn), (17, .int .i64 t)] xs := by exact ⟨rfl, rfl, rfl, rfl, rfl, rfl, trivial⟩) : FrD g now fn t ⟨xs.toArray, []⟩ := Fr.mk h hL
noncomputable def rcA_code : Code := ((Tryz.f11.body.bind (fromReg 6)).getD .skip)
noncomputable def rcB_code : Code := ((Tryz.f11.body.bind (fromReg 11)).getD .skip)
noncomputable def rcS_code : Code := ((Tryz.f11.body.bind (fromReg 16)).getD .skip)
noncomputable def rcC_code : Code := ((Tryz.f11.body.bind (fromReg 18)).getD .skip)
noncomputable def rcE_code : Code := ((Tryz.f11.body.bind (fromReg 23)).getD .skip)
noncomputable def rcD_code : Code := ((Tryz.f11.body.bind (fromReg 25)).getD .skip)
theorem zeo {w : World} {p : Sb.Pt} {A : Option Addr} {l : List TW} {n c : Nat} {x : Rx} {now : Int} {X : Array Value} {R : Ending → World → Prop} (C : RC w p A l n c x now) (hw : p.wf) (hX : X = PA p A n c) (hc : Sb.chkT p now = 0)
 (h : ∀ (W : World) (a : Act), RS w W p A n c x → FrA w.heap.size now a → firstWp Tryz.prog rcA_code (bodyPost Tryz.prog Tryz.f11 R) a W) : Calls Tryz.prog 11 #[.agg X, .int .i64 now, .agg x.row] w R := by
 have S : RS w (((w.alloc (Obj.cells X 48)).alloc (Obj.cells x.row 51)).alloc (Obj.cells (PA Sb.Pt.zero none 0 0) 48)) p A n c x := ⟨((PB.new w X hX).push (.cells x.row 51)).push (.cells (PA Sb.Pt.zero none 0 0) 48), (Blk.new1 w (.cells X 48) 51 x.row).push (.cells (PA Sb.Pt.zero none 0 0) 48), Blk.new2 w (.cells X 48) (.cells x.row 51) 48 (PA Sb.Pt.zero none 0 0), (((Bel.refl w).push (.cells X 48)).push (.cells x.row 51)).push (.cells (PA Sb.Pt.zero none 0 0) 48)⟩
 have k1 := H9 fun (W : World) hW => zdr p hw A l n c (PA p A n c) rfl W C.q C.len C.n5 hW C.sq now
 rw [hc] at k1
 have hl15 : (x.pl.length : Int) ≤ 1500 := by have := C.h15; omega
 clear hX hc hw
 go_enter Tryz.func11, Tryz.ntmps11
 go_upto_region 1 with fail
 change Code.wp _ _ _ _ (((w.alloc (Obj.cells X 48)).alloc (Obj.cells x.row 51)).alloc (Obj.cells (PA Sb.Pt.zero none 0 0) 48))
 obtain ⟨W, hW⟩ : ∃ W, W = ((w.alloc (Obj.cells X 48)).alloc (Obj.cells x.row 51)).alloc (Obj.cells (PA Sb.Pt.zero none 0 0) 48) := ⟨_, rfl⟩
 rw [← hW] at S ⊢
 clear hW
 go_wp2_with (first | (refine zae rfl 48 (.tmp 3) rfl (w.heap.size) 0 rfl 48 (PL p A n c) S.b0 48 _ Tryz.underlying48 zag (show 0 + 48 ≤ 48 by decide) (PA p A n c) (by rfl) rfl ?_) | fail)
 refine (k1.out _ (C.av.later S.u)).mono ?_
 rintro e w1 ⟨rfl, hb1⟩
 replace S := S.later hb1
 clear hb1 k1
 have x9 := S.c9
 go_upto_region 6 with fail
 clear x9
 refine zbp (by assumption) ?_
 exact h _ _ S FrA.mk
theorem zno {w W : World} {p : Sb.Pt} {A : Option Addr} {l : List TW} {n c : Nat} {x : Rx} {now : Int} (C : RC w p A l n c x now) (S : RS w W p A n c x) {R : Ending → World → Prop} (h101 : ¬x.ty = 101)
 (h : ∀ (W : World) (a : Act) (gt : Nat), RS w W p A n c x → Blk W gt 108 #[.int .u8 0, .bool false, .int .u8 0, .int .u16 0] → w.heap.size < gt → FrB w.heap.size now gt (speechB x.ty || x.ty == 13) a → firstWp Tryz.prog rcB_code (bodyPost Tryz.prog Tryz.f11 R) a W) (a : Act) (ha : FrA w.heap.size now a) : firstWp Tryz.prog rcA_code (bodyPost Tryz.prog Tryz.f11 R) a W := by
 obtain ⟨s, rfl, e1, e3, e5, e6, _⟩ := ha
 rw [r164, e1, e3, e5, e6]
 clear e1 e3 e5 e6
 have k2 := H9 fun W => zda x.ty W C.ty0 C.ty1
 refine zct ?_
 intro _ _
 have BT := H9 (Blk.new W 108 #[.int .u8 0, .bool false, .int .u8 0, .int .u16 0])
 have hgt' : w.heap.size < W.heap.size := by have := S.b2.lt; omega
 replace S := S.push (.cells #[.int .u8 0, .bool false, .int .u8 0, .int .u16 0] 108)
 obtain ⟨W2, hW2⟩ : ∃ V, V = W.alloc (Obj.cells #[.int .u8 0, .bool false, .int .u8 0, .int .u16 0] 108) := ⟨_, rfl⟩
 go_upto_region 7 with fail
 rw [← hW2] at S BT ⊢
 obtain ⟨gt, hgt⟩ : ∃ g, g = W.heap.size := ⟨_, rfl⟩
 rw [← hgt] at BT hgt' ⊢
 clear hW2 hgt
 have x1 := S.c1
 go_wp2_with fail
 refine (k2.out _).mono ?_
 rintro e w3 ⟨rfl, hb1⟩
 replace S := S.later hb1
 replace BT := H9 (BT.out.later hb1)
 clear hb1 k2 x1
 have x1 := S.c1
 cases hs : speechB x.ty
 · rw [hs] at h
   clear hs
   by_cases h13 : x.ty = 13
   · rw [h13] at x1 h
     go_upto_region 11 with fail
     refine zcw (by assumption) (by assumption) ?_
     exact h _ _ _ S BT.out hgt' FrB.mk
   · have h13b : (x.ty == 13) = false := by simpa using h13
     rw [h13b] at h
     go_upto_region 11 with fail
     refine zcw (by assumption) (by assumption) ?_
     exact h _ _ _ S BT.out hgt' FrB.mk
 · rw [hs] at h
   clear hs
   go_upto_region 11 with fail
   refine zcw (by assumption) (by assumption) ?_
   exact h _ _ _ S BT.out hgt' FrB.mk
theorem zgm {k : IntKind} {a b : Int} (h : a = b) : Ending.returned (.int k a) = .returned (.int k b) := by rw [h]
theorem zaq (x : Int) (h0 : -9223372036854775808 ≤ x) (h1 : x ≤ 9223372036854775807) : IntKind.i64.wrap x = x := by
 by_cases h : 0 ≤ x
 · have e : x % 2 ^ 64 = x := Int.emod_eq_of_lt h (by omega)
   simp only [IntKind.wrap, IntKind.bits, IntKind.signed, e]
   rw [if_neg (by simp; omega)]
 · have e : x % 2 ^ 64 = x + 2 ^ 64 := by omega
   simp only [IntKind.wrap, IntKind.bits, IntKind.signed, e]
   rw [if_pos (by simp; omega)]
   omega
theorem zcz (n : Int) : IntKind.u16.wrap n = n % 65536 := by simp [IntKind.wrap, IntKind.bits, IntKind.signed]
theorem zby (z : Int) : bits BinOp.and IntKind.i64 z 65535 = z % 65536 := by
 show IntKind.i64.wrap (((BitVec.ofInt 64 z &&& BitVec.ofInt 64 65535).toNat : Nat) : Int) = _
 have e : (BitVec.ofInt 64 65535).toNat = 2 ^ 16 - 1 := by decide
 rw [BitVec.toNat_and, e, Nat.and_two_pow_sub_one_eq_mod, BitVec.toNat_ofInt]
 have h : (((z % (2 ^ 64 : Nat)).toNat % 2 ^ 16 : Nat) : Int) = z % 65536 := by omega
 rw [h, zaq _ (by omega) (by omega)]
theorem zlk (z : Int) : bits BinOp.and IntKind.i64 z 4294967295 = z % 4294967296 := by
 show IntKind.i64.wrap (((BitVec.ofInt 64 z &&& BitVec.ofInt 64 4294967295).toNat : Nat) : Int) = _
 have e : (BitVec.ofInt 64 4294967295).toNat = 2 ^ 32 - 1 := by decide
 rw [BitVec.toNat_and, e, Nat.and_two_pow_sub_one_eq_mod, BitVec.toNat_ofInt]
 have h : (((z % (2 ^ 64 : Nat)).toNat % 2 ^ 32 : Nat) : Int) = z % 4294967296 := by omega
 rw [h, zaq _ (by omega) (by omega)]
section
variable (last x a b : Int) (w : World)
theorem zll (x0 : 0 ≤ x) (x1 : x ≤ 65535) (l0 : -9223372036854775808 ≤ last) (l1 : last ≤ 9223372036854775807) : Calls Tryz.prog 98 #[.int .i64 last, .int .i64 x, .int .i64 65536] w fun e w' => e = .returned (.int .i64 (Pk.near last x 65536)) ∧ w = w' := by
 obtain ⟨R, hR⟩ : ∃ R, R = Pk.near last x 65536 := ⟨_, rfl⟩
 rw [← hR]
 unfold Pk.near at hR
 by_cases h1 : last < -1152921504606846976
 · rw [if_pos (.inl h1)] at hR
   subst hR
   go_enter Tryz.func98, Tryz.ntmps98
   go_wp2
   go_ret
   exact ⟨rfl, rfl⟩
 by_cases h2 : 1152921504606846976 < last
 · rw [if_pos (.inr h2)] at hR
   subst hR
   go_enter Tryz.func98, Tryz.ntmps98
   go_wp2
   go_ret
   exact ⟨rfl, rfl⟩
 rw [if_neg (by omega)] at hR
 have h1' : -1152921504606846976 ≤ last := by omega
 have h2' : last ≤ 1152921504606846976 := by omega
 have hmk := zby (x - last)
 obtain ⟨d, hd⟩ : ∃ d, d = (x - last) % 65536 := ⟨_, rfl⟩
 have hd0 : 0 ≤ d := by omega
 have hd1 : d ≤ 65535 := by omega
 rw [← hd] at hR hmk
 rw [show (65536 : Int) / 2 = 32768 by decide] at hR
 clear h1 h2
 clear hd
 by_cases h3 : 32768 < d
 · rw [if_pos h3] at hR
   have HR := H9 hR
   clear hR
   go_enter Tryz.func98, Tryz.ntmps98
   go_wp2
   go_ret
   exact ⟨zgm (by have := HR.out; omega), rfl⟩
 · rw [if_neg h3] at hR
   have HR := H9 hR
   have h3' : d ≤ 32768 := by omega
   clear hR h3
   go_enter Tryz.func98, Tryz.ntmps98
   go_wp2
   go_ret
   exact ⟨zgm (by have := HR.out; omega), rfl⟩
theorem zlm (x0 : 0 ≤ x) (x1 : x ≤ 4294967295) (l0 : -9223372036854775808 ≤ last) (l1 : last ≤ 9223372036854775807) : Calls Tryz.prog 98 #[.int .i64 last, .int .i64 x, .int .i64 4294967296] w fun e w' => e = .returned (.int .i64 (Pk.near last x 4294967296)) ∧ w = w' := by
 obtain ⟨R, hR⟩ : ∃ R, R = Pk.near last x 4294967296 := ⟨_, rfl⟩
 rw [← hR]
 unfold Pk.near at hR
 by_cases h1 : last < -1152921504606846976
 · rw [if_pos (.inl h1)] at hR
   subst hR
   go_enter Tryz.func98, Tryz.ntmps98
   go_wp2
   go_ret
   exact ⟨rfl, rfl⟩
 by_cases h2 : 1152921504606846976 < last
 · rw [if_pos (.inr h2)] at hR
   subst hR
   go_enter Tryz.func98, Tryz.ntmps98
   go_wp2
   go_ret
   exact ⟨rfl, rfl⟩
 rw [if_neg (by omega)] at hR
 have h1' : -1152921504606846976 ≤ last := by omega
 have h2' : last ≤ 1152921504606846976 := by omega
 have hmk := zlk (x - last)
 obtain ⟨d, hd⟩ : ∃ d, d = (x - last) % 4294967296 := ⟨_, rfl⟩
 have hd0 : 0 ≤ d := by omega
 have hd1 : d ≤ 4294967295 := by omega
 rw [← hd] at hR hmk
 rw [show (4294967296 : Int) / 2 = 2147483648 by decide] at hR
 clear h1 h2
 clear hd
 by_cases h3 : 2147483648 < d
 · rw [if_pos h3] at hR
   have HR := H9 hR
   clear hR
   go_enter Tryz.func98, Tryz.ntmps98
   go_wp2
   go_ret
   exact ⟨zgm (by have := HR.out; omega), rfl⟩
 · rw [if_neg h3] at hR
   have HR := H9 hR
   have h3' : d ≤ 2147483648 := by omega
   clear hR h3
   go_enter Tryz.func98, Tryz.ntmps98
   go_wp2
   go_ret
   exact ⟨zgm (by have := HR.out; omega), rfl⟩
theorem zau (x0 : 0 ≤ x) (x1 : x ≤ 65535) (l0 : -9223372036854775808 ≤ last) (l1 : last ≤ 9223372036854775807) : Calls Tryz.prog 96 #[.int .i64 last, .int .u16 x] w fun e w' => e = .returned (.int .i64 (Pk.near last x 65536)) ∧ w = w' := by
 have k1 := fun W => zll last x W x0 x1 l0 l1
 generalize Pk.near last x 65536 = R at *
 have K1 := H9 k1
 clear k1
 go_enter Tryz.func96, Tryz.ntmps96
 go_wp2_with fail
 refine (K1.out _).mono ?_
 rintro e w1 ⟨rfl, rfl⟩
 go_wp2
 go_ret
 exact ⟨rfl, rfl⟩
theorem zfp (x0 : 0 ≤ x) (x1 : x ≤ 4294967295) (l0 : -9223372036854775808 ≤ last) (l1 : last ≤ 9223372036854775807) : Calls Tryz.prog 44 #[.int .i64 last, .int .u32 x] w fun e w' => e = .returned (.int .i64 (Pk.near last x 4294967296)) ∧ w = w' := by
 have k1 := fun W => zlm last x W x0 x1 l0 l1
 generalize Pk.near last x 4294967296 = R at *
 have K1 := H9 k1
 clear k1
 go_enter Tryz.func44, Tryz.ntmps44
 go_wp2_with fail
 refine (K1.out _).mono ?_
 rintro e w1 ⟨rfl, rfl⟩
 go_wp2
 go_ret
 exact ⟨rfl, rfl⟩
end
section
variable (high jump q : Int) (w : World)
theorem zjc (q0 : 0 ≤ q) (q1 : q ≤ 65535) (b0 : -9223372036854775808 ≤ high) (b1 : high ≤ 9223372036854775807) (c0 : -9223372036854775808 ≤ jump) (c1 : jump ≤ 9223372036854775807) (on : Bool) (h : high < 0) : Calls Tryz.prog 42 #[.agg #[.bool on, .int .i64 high, .int .i64 jump], .int .u16 q] w fun e w' => e = .returned (.tuple #[.agg #[.bool false, .int .i64 0, .int .i64 0], .int .i64 0, .bool false]) ∧ Bel w w' := by
 go_enter Tryz.func42, Tryz.ntmps42
 go_wp2_with fail
 exact bodyPost_ret (v := .tuple #[.agg #[.bool false, .int .i64 0, .int .i64 0], .int .i64 0, .bool false]) (zaw Tryz.results42 rfl (run_loadVar_row (P := Tryz.prog) _ _ _ _ _ _ _ (Blk.new1 w _ _ _) Tryz.underlying42 rfl (by kernel_rfl)) rfl rfl) rfl ⟨rfl, Bel.push (Bel.push (Bel.refl w) _) _⟩
theorem zjd (q0 : 0 ≤ q) (q1 : q ≤ 65535) (b0 : -9223372036854775808 ≤ high) (b1 : high ≤ 9223372036854775807) (c0 : -9223372036854775808 ≤ jump) (c1 : jump ≤ 9223372036854775807) (on : Bool) (g : 0 ≤ high) (h : 281474976710656 < high) : Calls Tryz.prog 42 #[.agg #[.bool on, .int .i64 high, .int .i64 jump], .int .u16 q] w fun e w' => e = .returned (.tuple #[.agg #[.bool false, .int .i64 0, .int .i64 0], .int .i64 0, .bool false]) ∧ Bel w w' := by
 go_enter Tryz.func42, Tryz.ntmps42
 go_wp2_with fail
 exact bodyPost_ret (v := .tuple #[.agg #[.bool false, .int .i64 0, .int .i64 0], .int .i64 0, .bool false]) (zaw Tryz.results42 rfl (run_loadVar_row (P := Tryz.prog) _ _ _ _ _ _ _ (Blk.new1 w _ _ _) Tryz.underlying42 rfl (by kernel_rfl)) rfl rfl) rfl ⟨rfl, Bel.push (Bel.push (Bel.refl w) _) _⟩
theorem zje (q0 : 0 ≤ q) (q1 : q ≤ 65535) (b0 : -9223372036854775808 ≤ high) (b1 : high ≤ 9223372036854775807) (c0 : -9223372036854775808 ≤ jump) (c1 : jump ≤ 9223372036854775807) (on : Bool) (g : 0 ≤ high) (g2 : high ≤ 281474976710656) (h : jump < -1) : Calls Tryz.prog 42 #[.agg #[.bool on, .int .i64 high, .int .i64 jump], .int .u16 q] w fun e w' => e = .returned (.tuple #[.agg #[.bool false, .int .i64 0, .int .i64 0], .int .i64 0, .bool false]) ∧ Bel w w' := by
 go_enter Tryz.func42, Tryz.ntmps42
 go_wp2_with fail
 exact bodyPost_ret (v := .tuple #[.agg #[.bool false, .int .i64 0, .int .i64 0], .int .i64 0, .bool false]) (zaw Tryz.results42 rfl (run_loadVar_row (P := Tryz.prog) _ _ _ _ _ _ _ (Blk.new1 w _ _ _) Tryz.underlying42 rfl (by kernel_rfl)) rfl rfl) rfl ⟨rfl, Bel.push (Bel.push (Bel.refl w) _) _⟩
theorem zjf (q0 : 0 ≤ q) (q1 : q ≤ 65535) (b0 : -9223372036854775808 ≤ high) (b1 : high ≤ 9223372036854775807) (c0 : -9223372036854775808 ≤ jump) (c1 : jump ≤ 9223372036854775807) (on : Bool) (g : 0 ≤ high) (g2 : high ≤ 281474976710656) (g3 : -1 ≤ jump) (h : 65535 < jump) : Calls Tryz.prog 42 #[.agg #[.bool on, .int .i64 high, .int .i64 jump], .int .u16 q] w fun e w' => e = .returned (.tuple #[.agg #[.bool false, .int .i64 0, .int .i64 0], .int .i64 0, .bool false]) ∧ Bel w w' := by
 go_enter Tryz.func42, Tryz.ntmps42
 go_wp2_with fail
 exact bodyPost_ret (v := .tuple #[.agg #[.bool false, .int .i64 0, .int .i64 0], .int .i64 0, .bool false]) (zaw Tryz.results42 rfl (run_loadVar_row (P := Tryz.prog) _ _ _ _ _ _ _ (Blk.new1 w _ _ _) Tryz.underlying42 rfl (by kernel_rfl)) rfl rfl) rfl ⟨rfl, Bel.push (Bel.push (Bel.refl w) _) _⟩
theorem zln (q0 : 0 ≤ q) (q1 : q ≤ 65535) (b0 : -9223372036854775808 ≤ high) (b1 : high ≤ 9223372036854775807) (c0 : -9223372036854775808 ≤ jump) (c1 : jump ≤ 9223372036854775807) (g : 0 ≤ high) (g2 : high ≤ 281474976710656) (g3 : -1 ≤ jump) (g4 : jump ≤ 65535) : Calls Tryz.prog 42 #[.agg #[.bool false, .int .i64 high, .int .i64 jump], .int .u16 q] w fun e w' => e = .returned (.tuple #[.agg #[.bool true, .int .i64 q, .int .i64 (-1)], .int .i64 q, .bool true]) ∧ Bel w w' := by
 go_enter Tryz.func42, Tryz.ntmps42
 go_wp2_with fail
 exact bodyPost_ret (v := .tuple #[.agg #[.bool true, .int .i64 q, .int .i64 (-1)], .int .i64 q, .bool true]) (zaw Tryz.results42 rfl (run_loadVar_row (P := Tryz.prog) _ _ _ _ _ _ _ (Blk.new1 w _ _ _) Tryz.underlying42 rfl (by kernel_rfl)) rfl rfl) rfl ⟨rfl, Bel.push (Bel.push (Bel.refl w) _) _⟩
theorem znp (q0 : 0 ≤ q) (q1 : q ≤ 65535) (b0 : -9223372036854775808 ≤ high) (b1 : high ≤ 9223372036854775807) (c0 : -9223372036854775808 ≤ jump) (c1 : jump ≤ 9223372036854775807) (g : 0 ≤ high) (g2 : high ≤ 281474976710656) (g3 : -1 ≤ jump) (g4 : jump ≤ 65535) (h1 : 0 ≤ Pk.near high q 65536) (h2 : Pk.near high q 65536 ≤ high + 3000) (h3 : high - 100 ≤ Pk.near high q 65536) : Calls Tryz.prog 42 #[.agg #[.bool true, .int .i64 high, .int .i64 jump], .int .u16 q] w fun e w' => e = .returned (.tuple #[.agg #[.bool true, .int .i64 (max high (Pk.near high q 65536)), .int .i64 (-1)], .int .i64 (Pk.near high q 65536), .bool true]) ∧ Bel w w' := by
 have k1 := fun W => zau high q W q0 q1 b0 b1
 obtain ⟨n, hn⟩ : ∃ n, n = Pk.near high q 65536 := ⟨_, rfl⟩
 simp only [← hn]
 rw [← hn] at k1 h1 h2 h3
 have hnb := Pk.near_bd16 high q (by omega)
 rw [← hn] at hnb
 obtain ⟨n0, n1, _⟩ := hnb
 have n2 : n ≤ 281474976800000 := by omega
 have n3 : -40000 ≤ n := by omega
 have hv1 := zaq (high + 3000) (by omega) (by omega)
 have hv2 := zaq (high - 100) (by omega) (by omega)
 have K1 := H9 k1
 clear k1 n0 n1 hn
 go_enter Tryz.func42, Tryz.ntmps42
 go_wp2_with fail
 refine (K1.out _).mono ?_
 rintro e w1 ⟨rfl, rfl⟩
 go_wp2_with fail
 exact bodyPost_ret (v := .tuple #[.agg #[.bool true, .int .i64 (max high n), .int .i64 (-1)], .int .i64 n, .bool true]) (zaw Tryz.results42 rfl (run_loadVar_row (P := Tryz.prog) _ _ _ _ _ _ _ (Blk.new1 w _ _ _) Tryz.underlying42 rfl (by kernel_rfl)) rfl rfl) rfl ⟨rfl, Bel.push (Bel.push (Bel.refl w) _) _⟩
theorem zgn (q0 : 0 ≤ q) (q1 : q ≤ 65535) (b0 : -9223372036854775808 ≤ high) (b1 : high ≤ 9223372036854775807) (c0 : -9223372036854775808 ≤ jump) (c1 : jump ≤ 9223372036854775807) (g : 0 ≤ high) (g2 : high ≤ 281474976710656) (g3 : -1 ≤ jump) (g4 : jump ≤ 65535) (h1 : Pk.near high q 65536 < 0) (hj : q = jump) (hh : high < 140737488355328) (hd0 : (q - high) % 65536 = 0) : Calls Tryz.prog 42 #[.agg #[.bool true, .int .i64 high, .int .i64 jump], .int .u16 q] w fun e w' => e = .returned (.tuple #[.agg #[.bool true, .int .i64 (high + 65536), .int .i64 (-1)], .int .i64 (high + 65536), .bool true]) ∧ Bel w w' := by
 have k1 := fun W => zau high q W q0 q1 b0 b1
 obtain ⟨n, hn⟩ : ∃ n, n = Pk.near high q 65536 := ⟨_, rfl⟩
 rw [← hn] at k1 h1
 have hnb := Pk.near_bd16 high q (by omega)
 rw [← hn] at hnb
 obtain ⟨n0, n1, _⟩ := hnb
 have n2 : n ≤ 281474976800000 := by omega
 have n3 : -40000 ≤ n := by omega
 have hv1 := zaq (high + 3000) (by omega) (by omega)
 have hv2 := zaq (high - 100) (by omega) (by omega)
 have K1 := H9 k1
 clear k1 n0 n1 hn
 obtain ⟨d, hd⟩ : ∃ d, d = (q - high) % 65536 := ⟨_, rfl⟩
 have hmk := zby (q - high)
 rw [← hd] at hmk
 have d0 : 0 ≤ d := by omega
 have d1 : d ≤ 65535 := by omega
 rw [← hd] at hd0
 have e0 : (d == 0) = true := by rw [beq_iff_eq]; exact hd0
 clear hd hd0
 have ej : (q == jump) = true := by rw [beq_iff_eq]; exact hj
 clear hj
 go_enter Tryz.func42, Tryz.ntmps42
 go_wp2_with fail
 refine (K1.out _).mono ?_
 rintro e w1 ⟨rfl, rfl⟩
 go_wp2_with fail
 go_region
 go_wp2_with fail
 exact bodyPost_ret (v := .tuple #[.agg #[.bool true, .int .i64 (high + 65536), .int .i64 (-1)], .int .i64 (high + 65536), .bool true]) (zaw Tryz.results42 rfl (run_loadVar_row (P := Tryz.prog) _ _ _ _ _ _ _ (Blk.new1 w _ _ _).drew Tryz.underlying42 rfl (by kernel_rfl)) rfl rfl) rfl ⟨rfl, Bel.drew (Bel.push (Bel.push (Bel.refl w) _) _)⟩
theorem zgo (q0 : 0 ≤ q) (q1 : q ≤ 65535) (b0 : -9223372036854775808 ≤ high) (b1 : high ≤ 9223372036854775807) (c0 : -9223372036854775808 ≤ jump) (c1 : jump ≤ 9223372036854775807) (g : 0 ≤ high) (g2 : high ≤ 281474976710656) (g3 : -1 ≤ jump) (g4 : jump ≤ 65535) (h1 : Pk.near high q 65536 < 0) (hj : q = jump) (hh : high < 140737488355328) (hd0 : ¬(q - high) % 65536 = 0) : Calls Tryz.prog 42 #[.agg #[.bool true, .int .i64 high, .int .i64 jump], .int .u16 q] w fun e w' => e = .returned (.tuple #[.agg #[.bool true, .int .i64 (high + ((q - high) % 65536)), .int .i64 (-1)], .int .i64 (high + ((q - high) % 65536)), .bool true]) ∧ Bel w w' := by
 have k1 := fun W => zau high q W q0 q1 b0 b1
 obtain ⟨n, hn⟩ : ∃ n, n = Pk.near high q 65536 := ⟨_, rfl⟩
 rw [← hn] at k1 h1
 have hnb := Pk.near_bd16 high q (by omega)
 rw [← hn] at hnb
 obtain ⟨n0, n1, _⟩ := hnb
 have n2 : n ≤ 281474976800000 := by omega
 have n3 : -40000 ≤ n := by omega
 have hv1 := zaq (high + 3000) (by omega) (by omega)
 have hv2 := zaq (high - 100) (by omega) (by omega)
 have K1 := H9 k1
 clear k1 n0 n1 hn
 obtain ⟨d, hd⟩ : ∃ d, d = (q - high) % 65536 := ⟨_, rfl⟩
 have hmk := zby (q - high)
 rw [← hd] at hmk
 have d0 : 0 ≤ d := by omega
 have d1 : d ≤ 65535 := by omega
 simp only [← hd]
 rw [← hd] at hd0
 have e0 : (d == 0) = false := by rw [beq_eq_false_iff_ne]; exact hd0
 clear hd hd0
 have ej : (q == jump) = true := by rw [beq_iff_eq]; exact hj
 clear hj
 go_enter Tryz.func42, Tryz.ntmps42
 go_wp2_with fail
 refine (K1.out _).mono ?_
 rintro e w1 ⟨rfl, rfl⟩
 go_wp2_with fail
 go_region
 go_wp2_with fail
 exact bodyPost_ret (v := .tuple #[.agg #[.bool true, .int .i64 (high + d), .int .i64 (-1)], .int .i64 (high + d), .bool true]) (zaw Tryz.results42 rfl (run_loadVar_row (P := Tryz.prog) _ _ _ _ _ _ _ (Blk.new1 w _ _ _).drew Tryz.underlying42 rfl (by kernel_rfl)) rfl rfl) rfl ⟨rfl, Bel.drew (Bel.push (Bel.push (Bel.refl w) _) _)⟩
theorem zjg (q0 : 0 ≤ q) (q1 : q ≤ 65535) (b0 : -9223372036854775808 ≤ high) (b1 : high ≤ 9223372036854775807) (c0 : -9223372036854775808 ≤ jump) (c1 : jump ≤ 9223372036854775807) (g : 0 ≤ high) (g2 : high ≤ 281474976710656) (g3 : -1 ≤ jump) (g4 : jump ≤ 65535) (h1 : Pk.near high q 65536 < 0) (hj : ¬q = jump) : Calls Tryz.prog 42 #[.agg #[.bool true, .int .i64 high, .int .i64 jump], .int .u16 q] w fun e w' => e = .returned (.tuple #[.agg #[.bool true, .int .i64 high, .int .i64 ((q + 1) % 65536)], .int .i64 0, .bool false]) ∧ Bel w w' := by
 have k1 := fun W => zau high q W q0 q1 b0 b1
 obtain ⟨n, hn⟩ : ∃ n, n = Pk.near high q 65536 := ⟨_, rfl⟩
 rw [← hn] at k1 h1
 have hnb := Pk.near_bd16 high q (by omega)
 rw [← hn] at hnb
 obtain ⟨n0, n1, _⟩ := hnb
 have n2 : n ≤ 281474976800000 := by omega
 have n3 : -40000 ≤ n := by omega
 have hv1 := zaq (high + 3000) (by omega) (by omega)
 have hv2 := zaq (high - 100) (by omega) (by omega)
 have K1 := H9 k1
 clear k1 n0 n1 hn
 have ej : (q == jump) = false := by rw [beq_eq_false_iff_ne]; exact hj
 clear hj
 have hw : IntKind.u16.wrap (q + 1) = (q + 1) % 65536 := zcz _
 go_enter Tryz.func42, Tryz.ntmps42
 go_wp2_with fail
 refine (K1.out _).mono ?_
 rintro e w1 ⟨rfl, rfl⟩
 go_wp2_with fail
 exact bodyPost_ret (v := .tuple #[.agg #[.bool true, .int .i64 high, .int .i64 ((q + 1) % 65536)], .int .i64 0, .bool false]) (zaw Tryz.results42 rfl (run_loadVar_row (P := Tryz.prog) _ _ _ _ _ _ _ (Blk.new1 w _ _ _) Tryz.underlying42 rfl (by kernel_rfl)) rfl rfl) rfl ⟨rfl, Bel.push (Bel.push (Bel.refl w) _) _⟩
theorem zjh (q0 : 0 ≤ q) (q1 : q ≤ 65535) (b0 : -9223372036854775808 ≤ high) (b1 : high ≤ 9223372036854775807) (c0 : -9223372036854775808 ≤ jump) (c1 : jump ≤ 9223372036854775807) (g : 0 ≤ high) (g2 : high ≤ 281474976710656) (g3 : -1 ≤ jump) (g4 : jump ≤ 65535) (h1 : Pk.near high q 65536 < 0) (hj : q = jump) (hh : 140737488355328 ≤ high) : Calls Tryz.prog 42 #[.agg #[.bool true, .int .i64 high, .int .i64 jump], .int .u16 q] w fun e w' => e = .returned (.tuple #[.agg #[.bool true, .int .i64 high, .int .i64 ((q + 1) % 65536)], .int .i64 0, .bool false]) ∧ Bel w w' := by
 have k1 := fun W => zau high q W q0 q1 b0 b1
 obtain ⟨n, hn⟩ : ∃ n, n = Pk.near high q 65536 := ⟨_, rfl⟩
 rw [← hn] at k1 h1
 have hnb := Pk.near_bd16 high q (by omega)
 rw [← hn] at hnb
 obtain ⟨n0, n1, _⟩ := hnb
 have n2 : n ≤ 281474976800000 := by omega
 have n3 : -40000 ≤ n := by omega
 have hv1 := zaq (high + 3000) (by omega) (by omega)
 have hv2 := zaq (high - 100) (by omega) (by omega)
 have K1 := H9 k1
 clear k1 n0 n1 hn
 have ej : (q == jump) = true := by rw [beq_iff_eq]; exact hj
 clear hj
 have hw : IntKind.u16.wrap (q + 1) = (q + 1) % 65536 := zcz _
 go_enter Tryz.func42, Tryz.ntmps42
 go_wp2_with fail
 refine (K1.out _).mono ?_
 rintro e w1 ⟨rfl, rfl⟩
 go_wp2_with fail
 exact bodyPost_ret (v := .tuple #[.agg #[.bool true, .int .i64 high, .int .i64 ((q + 1) % 65536)], .int .i64 0, .bool false]) (zaw Tryz.results42 rfl (run_loadVar_row (P := Tryz.prog) _ _ _ _ _ _ _ (Blk.new1 w _ _ _) Tryz.underlying42 rfl (by kernel_rfl)) rfl rfl) rfl ⟨rfl, Bel.push (Bel.push (Bel.refl w) _) _⟩
theorem zgp (q0 : 0 ≤ q) (q1 : q ≤ 65535) (b0 : -9223372036854775808 ≤ high) (b1 : high ≤ 9223372036854775807) (c0 : -9223372036854775808 ≤ jump) (c1 : jump ≤ 9223372036854775807) (g : 0 ≤ high) (g2 : high ≤ 281474976710656) (g3 : -1 ≤ jump) (g4 : jump ≤ 65535) (h1 : 0 ≤ Pk.near high q 65536) (h2 : high + 3000 < Pk.near high q 65536) (hj : q = jump) (hh : high < 140737488355328) (hd0 : (q - high) % 65536 = 0) : Calls Tryz.prog 42 #[.agg #[.bool true, .int .i64 high, .int .i64 jump], .int .u16 q] w fun e w' => e = .returned (.tuple #[.agg #[.bool true, .int .i64 (high + 65536), .int .i64 (-1)], .int .i64 (high + 65536), .bool true]) ∧ Bel w w' := by
 have k1 := fun W => zau high q W q0 q1 b0 b1
 obtain ⟨n, hn⟩ : ∃ n, n = Pk.near high q 65536 := ⟨_, rfl⟩
 rw [← hn] at k1 h1 h2
 have hnb := Pk.near_bd16 high q (by omega)
 rw [← hn] at hnb
 obtain ⟨n0, n1, _⟩ := hnb
 have n2 : n ≤ 281474976800000 := by omega
 have n3 : -40000 ≤ n := by omega
 have hv1 := zaq (high + 3000) (by omega) (by omega)
 have hv2 := zaq (high - 100) (by omega) (by omega)
 have K1 := H9 k1
 clear k1 n0 n1 hn
 obtain ⟨d, hd⟩ : ∃ d, d = (q - high) % 65536 := ⟨_, rfl⟩
 have hmk := zby (q - high)
 rw [← hd] at hmk
 have d0 : 0 ≤ d := by omega
 have d1 : d ≤ 65535 := by omega
 rw [← hd] at hd0
 have e0 : (d == 0) = true := by rw [beq_iff_eq]; exact hd0
 clear hd hd0
 have ej : (q == jump) = true := by rw [beq_iff_eq]; exact hj
 clear hj
 go_enter Tryz.func42, Tryz.ntmps42
 go_wp2_with fail
 refine (K1.out _).mono ?_
 rintro e w1 ⟨rfl, rfl⟩
 go_wp2_with fail
 go_region
 go_wp2_with fail
 exact bodyPost_ret (v := .tuple #[.agg #[.bool true, .int .i64 (high + 65536), .int .i64 (-1)], .int .i64 (high + 65536), .bool true]) (zaw Tryz.results42 rfl (run_loadVar_row (P := Tryz.prog) _ _ _ _ _ _ _ (Blk.new1 w _ _ _).drew Tryz.underlying42 rfl (by kernel_rfl)) rfl rfl) rfl ⟨rfl, Bel.drew (Bel.push (Bel.push (Bel.refl w) _) _)⟩
theorem zgq (q0 : 0 ≤ q) (q1 : q ≤ 65535) (b0 : -9223372036854775808 ≤ high) (b1 : high ≤ 9223372036854775807) (c0 : -9223372036854775808 ≤ jump) (c1 : jump ≤ 9223372036854775807) (g : 0 ≤ high) (g2 : high ≤ 281474976710656) (g3 : -1 ≤ jump) (g4 : jump ≤ 65535) (h1 : 0 ≤ Pk.near high q 65536) (h2 : high + 3000 < Pk.near high q 65536) (hj : q = jump) (hh : high < 140737488355328) (hd0 : ¬(q - high) % 65536 = 0) : Calls Tryz.prog 42 #[.agg #[.bool true, .int .i64 high, .int .i64 jump], .int .u16 q] w fun e w' => e = .returned (.tuple #[.agg #[.bool true, .int .i64 (high + ((q - high) % 65536)), .int .i64 (-1)], .int .i64 (high + ((q - high) % 65536)), .bool true]) ∧ Bel w w' := by
 have k1 := fun W => zau high q W q0 q1 b0 b1
 obtain ⟨n, hn⟩ : ∃ n, n = Pk.near high q 65536 := ⟨_, rfl⟩
 rw [← hn] at k1 h1 h2
 have hnb := Pk.near_bd16 high q (by omega)
 rw [← hn] at hnb
 obtain ⟨n0, n1, _⟩ := hnb
 have n2 : n ≤ 281474976800000 := by omega
 have n3 : -40000 ≤ n := by omega
 have hv1 := zaq (high + 3000) (by omega) (by omega)
 have hv2 := zaq (high - 100) (by omega) (by omega)
 have K1 := H9 k1
 clear k1 n0 n1 hn
 obtain ⟨d, hd⟩ : ∃ d, d = (q - high) % 65536 := ⟨_, rfl⟩
 have hmk := zby (q - high)
 rw [← hd] at hmk
 have d0 : 0 ≤ d := by omega
 have d1 : d ≤ 65535 := by omega
 simp only [← hd]
 rw [← hd] at hd0
 have e0 : (d == 0) = false := by rw [beq_eq_false_iff_ne]; exact hd0
 clear hd hd0
 have ej : (q == jump) = true := by rw [beq_iff_eq]; exact hj
 clear hj
 go_enter Tryz.func42, Tryz.ntmps42
 go_wp2_with fail
 refine (K1.out _).mono ?_
 rintro e w1 ⟨rfl, rfl⟩
 go_wp2_with fail
 go_region
 go_wp2_with fail
 exact bodyPost_ret (v := .tuple #[.agg #[.bool true, .int .i64 (high + d), .int .i64 (-1)], .int .i64 (high + d), .bool true]) (zaw Tryz.results42 rfl (run_loadVar_row (P := Tryz.prog) _ _ _ _ _ _ _ (Blk.new1 w _ _ _).drew Tryz.underlying42 rfl (by kernel_rfl)) rfl rfl) rfl ⟨rfl, Bel.drew (Bel.push (Bel.push (Bel.refl w) _) _)⟩
theorem zji (q0 : 0 ≤ q) (q1 : q ≤ 65535) (b0 : -9223372036854775808 ≤ high) (b1 : high ≤ 9223372036854775807) (c0 : -9223372036854775808 ≤ jump) (c1 : jump ≤ 9223372036854775807) (g : 0 ≤ high) (g2 : high ≤ 281474976710656) (g3 : -1 ≤ jump) (g4 : jump ≤ 65535) (h1 : 0 ≤ Pk.near high q 65536) (h2 : high + 3000 < Pk.near high q 65536) (hj : ¬q = jump) : Calls Tryz.prog 42 #[.agg #[.bool true, .int .i64 high, .int .i64 jump], .int .u16 q] w fun e w' => e = .returned (.tuple #[.agg #[.bool true, .int .i64 high, .int .i64 ((q + 1) % 65536)], .int .i64 0, .bool false]) ∧ Bel w w' := by
 have k1 := fun W => zau high q W q0 q1 b0 b1
 obtain ⟨n, hn⟩ : ∃ n, n = Pk.near high q 65536 := ⟨_, rfl⟩
 rw [← hn] at k1 h1 h2
 have hnb := Pk.near_bd16 high q (by omega)
 rw [← hn] at hnb
 obtain ⟨n0, n1, _⟩ := hnb
 have n2 : n ≤ 281474976800000 := by omega
 have n3 : -40000 ≤ n := by omega
 have hv1 := zaq (high + 3000) (by omega) (by omega)
 have hv2 := zaq (high - 100) (by omega) (by omega)
 have K1 := H9 k1
 clear k1 n0 n1 hn
 have ej : (q == jump) = false := by rw [beq_eq_false_iff_ne]; exact hj
 clear hj
 have hw : IntKind.u16.wrap (q + 1) = (q + 1) % 65536 := zcz _
 go_enter Tryz.func42, Tryz.ntmps42
 go_wp2_with fail
 refine (K1.out _).mono ?_
 rintro e w1 ⟨rfl, rfl⟩
 go_wp2_with fail
 exact bodyPost_ret (v := .tuple #[.agg #[.bool true, .int .i64 high, .int .i64 ((q + 1) % 65536)], .int .i64 0, .bool false]) (zaw Tryz.results42 rfl (run_loadVar_row (P := Tryz.prog) _ _ _ _ _ _ _ (Blk.new1 w _ _ _) Tryz.underlying42 rfl (by kernel_rfl)) rfl rfl) rfl ⟨rfl, Bel.push (Bel.push (Bel.refl w) _) _⟩
theorem zjj (q0 : 0 ≤ q) (q1 : q ≤ 65535) (b0 : -9223372036854775808 ≤ high) (b1 : high ≤ 9223372036854775807) (c0 : -9223372036854775808 ≤ jump) (c1 : jump ≤ 9223372036854775807) (g : 0 ≤ high) (g2 : high ≤ 281474976710656) (g3 : -1 ≤ jump) (g4 : jump ≤ 65535) (h1 : 0 ≤ Pk.near high q 65536) (h2 : high + 3000 < Pk.near high q 65536) (hj : q = jump) (hh : 140737488355328 ≤ high) : Calls Tryz.prog 42 #[.agg #[.bool true, .int .i64 high, .int .i64 jump], .int .u16 q] w fun e w' => e = .returned (.tuple #[.agg #[.bool true, .int .i64 high, .int .i64 ((q + 1) % 65536)], .int .i64 0, .bool false]) ∧ Bel w w' := by
 have k1 := fun W => zau high q W q0 q1 b0 b1
 obtain ⟨n, hn⟩ : ∃ n, n = Pk.near high q 65536 := ⟨_, rfl⟩
 rw [← hn] at k1 h1 h2
 have hnb := Pk.near_bd16 high q (by omega)
 rw [← hn] at hnb
 obtain ⟨n0, n1, _⟩ := hnb
 have n2 : n ≤ 281474976800000 := by omega
 have n3 : -40000 ≤ n := by omega
 have hv1 := zaq (high + 3000) (by omega) (by omega)
 have hv2 := zaq (high - 100) (by omega) (by omega)
 have K1 := H9 k1
 clear k1 n0 n1 hn
 have ej : (q == jump) = true := by rw [beq_iff_eq]; exact hj
 clear hj
 have hw : IntKind.u16.wrap (q + 1) = (q + 1) % 65536 := zcz _
 go_enter Tryz.func42, Tryz.ntmps42
 go_wp2_with fail
 refine (K1.out _).mono ?_
 rintro e w1 ⟨rfl, rfl⟩
 go_wp2_with fail
 exact bodyPost_ret (v := .tuple #[.agg #[.bool true, .int .i64 high, .int .i64 ((q + 1) % 65536)], .int .i64 0, .bool false]) (zaw Tryz.results42 rfl (run_loadVar_row (P := Tryz.prog) _ _ _ _ _ _ _ (Blk.new1 w _ _ _) Tryz.underlying42 rfl (by kernel_rfl)) rfl rfl) rfl ⟨rfl, Bel.push (Bel.push (Bel.refl w) _) _⟩
theorem zgr (q0 : 0 ≤ q) (q1 : q ≤ 65535) (b0 : -9223372036854775808 ≤ high) (b1 : high ≤ 9223372036854775807) (c0 : -9223372036854775808 ≤ jump) (c1 : jump ≤ 9223372036854775807) (g : 0 ≤ high) (g2 : high ≤ 281474976710656) (g3 : -1 ≤ jump) (g4 : jump ≤ 65535) (h1 : 0 ≤ Pk.near high q 65536) (h2 : Pk.near high q 65536 ≤ high + 3000) (h3 : Pk.near high q 65536 < high - 100) (hj : q = jump) (hh : high < 140737488355328) (hd0 : (q - high) % 65536 = 0) : Calls Tryz.prog 42 #[.agg #[.bool true, .int .i64 high, .int .i64 jump], .int .u16 q] w fun e w' => e = .returned (.tuple #[.agg #[.bool true, .int .i64 (high + 65536), .int .i64 (-1)], .int .i64 (high + 65536), .bool true]) ∧ Bel w w' := by
 have k1 := fun W => zau high q W q0 q1 b0 b1
 obtain ⟨n, hn⟩ : ∃ n, n = Pk.near high q 65536 := ⟨_, rfl⟩
 rw [← hn] at k1 h1 h2 h3
 have hnb := Pk.near_bd16 high q (by omega)
 rw [← hn] at hnb
 obtain ⟨n0, n1, _⟩ := hnb
 have n2 : n ≤ 281474976800000 := by omega
 have n3 : -40000 ≤ n := by omega
 have hv1 := zaq (high + 3000) (by omega) (by omega)
 have hv2 := zaq (high - 100) (by omega) (by omega)
 have K1 := H9 k1
 clear k1 n0 n1 hn
 obtain ⟨d, hd⟩ : ∃ d, d = (q - high) % 65536 := ⟨_, rfl⟩
 have hmk := zby (q - high)
 rw [← hd] at hmk
 have d0 : 0 ≤ d := by omega
 have d1 : d ≤ 65535 := by omega
 rw [← hd] at hd0
 have e0 : (d == 0) = true := by rw [beq_iff_eq]; exact hd0
 clear hd hd0
 have ej : (q == jump) = true := by rw [beq_iff_eq]; exact hj
 clear hj
 go_enter Tryz.func42, Tryz.ntmps42
 go_wp2_with fail
 refine (K1.out _).mono ?_
 rintro e w1 ⟨rfl, rfl⟩
 go_wp2_with fail
 go_region
 go_wp2_with fail
 exact bodyPost_ret (v := .tuple #[.agg #[.bool true, .int .i64 (high + 65536), .int .i64 (-1)], .int .i64 (high + 65536), .bool true]) (zaw Tryz.results42 rfl (run_loadVar_row (P := Tryz.prog) _ _ _ _ _ _ _ (Blk.new1 w _ _ _).drew Tryz.underlying42 rfl (by kernel_rfl)) rfl rfl) rfl ⟨rfl, Bel.drew (Bel.push (Bel.push (Bel.refl w) _) _)⟩
theorem zgs (q0 : 0 ≤ q) (q1 : q ≤ 65535) (b0 : -9223372036854775808 ≤ high) (b1 : high ≤ 9223372036854775807) (c0 : -9223372036854775808 ≤ jump) (c1 : jump ≤ 9223372036854775807) (g : 0 ≤ high) (g2 : high ≤ 281474976710656) (g3 : -1 ≤ jump) (g4 : jump ≤ 65535) (h1 : 0 ≤ Pk.near high q 65536) (h2 : Pk.near high q 65536 ≤ high + 3000) (h3 : Pk.near high q 65536 < high - 100) (hj : q = jump) (hh : high < 140737488355328) (hd0 : ¬(q - high) % 65536 = 0) : Calls Tryz.prog 42 #[.agg #[.bool true, .int .i64 high, .int .i64 jump], .int .u16 q] w fun e w' => e = .returned (.tuple #[.agg #[.bool true, .int .i64 (high + ((q - high) % 65536)), .int .i64 (-1)], .int .i64 (high + ((q - high) % 65536)), .bool true]) ∧ Bel w w' := by
 have k1 := fun W => zau high q W q0 q1 b0 b1
 obtain ⟨n, hn⟩ : ∃ n, n = Pk.near high q 65536 := ⟨_, rfl⟩
 rw [← hn] at k1 h1 h2 h3
 have hnb := Pk.near_bd16 high q (by omega)
 rw [← hn] at hnb
 obtain ⟨n0, n1, _⟩ := hnb
 have n2 : n ≤ 281474976800000 := by omega
 have n3 : -40000 ≤ n := by omega
 have hv1 := zaq (high + 3000) (by omega) (by omega)
 have hv2 := zaq (high - 100) (by omega) (by omega)
 have K1 := H9 k1
 clear k1 n0 n1 hn
 obtain ⟨d, hd⟩ : ∃ d, d = (q - high) % 65536 := ⟨_, rfl⟩
 have hmk := zby (q - high)
 rw [← hd] at hmk
 have d0 : 0 ≤ d := by omega
 have d1 : d ≤ 65535 := by omega
 simp only [← hd]
 rw [← hd] at hd0
 have e0 : (d == 0) = false := by rw [beq_eq_false_iff_ne]; exact hd0
 clear hd hd0
 have ej : (q == jump) = true := by rw [beq_iff_eq]; exact hj
 clear hj
 go_enter Tryz.func42, Tryz.ntmps42
 go_wp2_with fail
 refine (K1.out _).mono ?_
 rintro e w1 ⟨rfl, rfl⟩
 go_wp2_with fail
 go_region
 go_wp2_with fail
 exact bodyPost_ret (v := .tuple #[.agg #[.bool true, .int .i64 (high + d), .int .i64 (-1)], .int .i64 (high + d), .bool true]) (zaw Tryz.results42 rfl (run_loadVar_row (P := Tryz.prog) _ _ _ _ _ _ _ (Blk.new1 w _ _ _).drew Tryz.underlying42 rfl (by kernel_rfl)) rfl rfl) rfl ⟨rfl, Bel.drew (Bel.push (Bel.push (Bel.refl w) _) _)⟩
theorem zjk (q0 : 0 ≤ q) (q1 : q ≤ 65535) (b0 : -9223372036854775808 ≤ high) (b1 : high ≤ 9223372036854775807) (c0 : -9223372036854775808 ≤ jump) (c1 : jump ≤ 9223372036854775807) (g : 0 ≤ high) (g2 : high ≤ 281474976710656) (g3 : -1 ≤ jump) (g4 : jump ≤ 65535) (h1 : 0 ≤ Pk.near high q 65536) (h2 : Pk.near high q 65536 ≤ high + 3000) (h3 : Pk.near high q 65536 < high - 100) (hj : ¬q = jump) : Calls Tryz.prog 42 #[.agg #[.bool true, .int .i64 high, .int .i64 jump], .int .u16 q] w fun e w' => e = .returned (.tuple #[.agg #[.bool true, .int .i64 high, .int .i64 ((q + 1) % 65536)], .int .i64 0, .bool false]) ∧ Bel w w' := by
 have k1 := fun W => zau high q W q0 q1 b0 b1
 obtain ⟨n, hn⟩ : ∃ n, n = Pk.near high q 65536 := ⟨_, rfl⟩
 rw [← hn] at k1 h1 h2 h3
 have hnb := Pk.near_bd16 high q (by omega)
 rw [← hn] at hnb
 obtain ⟨n0, n1, _⟩ := hnb
 have n2 : n ≤ 281474976800000 := by omega
 have n3 : -40000 ≤ n := by omega
 have hv1 := zaq (high + 3000) (by omega) (by omega)
 have hv2 := zaq (high - 100) (by omega) (by omega)
 have K1 := H9 k1
 clear k1 n0 n1 hn
 have ej : (q == jump) = false := by rw [beq_eq_false_iff_ne]; exact hj
 clear hj
 have hw : IntKind.u16.wrap (q + 1) = (q + 1) % 65536 := zcz _
 go_enter Tryz.func42, Tryz.ntmps42
 go_wp2_with fail
 refine (K1.out _).mono ?_
 rintro e w1 ⟨rfl, rfl⟩
 go_wp2_with fail
 exact bodyPost_ret (v := .tuple #[.agg #[.bool true, .int .i64 high, .int .i64 ((q + 1) % 65536)], .int .i64 0, .bool false]) (zaw Tryz.results42 rfl (run_loadVar_row (P := Tryz.prog) _ _ _ _ _ _ _ (Blk.new1 w _ _ _) Tryz.underlying42 rfl (by kernel_rfl)) rfl rfl) rfl ⟨rfl, Bel.push (Bel.push (Bel.refl w) _) _⟩
theorem zjl (q0 : 0 ≤ q) (q1 : q ≤ 65535) (b0 : -9223372036854775808 ≤ high) (b1 : high ≤ 9223372036854775807) (c0 : -9223372036854775808 ≤ jump) (c1 : jump ≤ 9223372036854775807) (g : 0 ≤ high) (g2 : high ≤ 281474976710656) (g3 : -1 ≤ jump) (g4 : jump ≤ 65535) (h1 : 0 ≤ Pk.near high q 65536) (h2 : Pk.near high q 65536 ≤ high + 3000) (h3 : Pk.near high q 65536 < high - 100) (hj : q = jump) (hh : 140737488355328 ≤ high) : Calls Tryz.prog 42 #[.agg #[.bool true, .int .i64 high, .int .i64 jump], .int .u16 q] w fun e w' => e = .returned (.tuple #[.agg #[.bool true, .int .i64 high, .int .i64 ((q + 1) % 65536)], .int .i64 0, .bool false]) ∧ Bel w w' := by
 have k1 := fun W => zau high q W q0 q1 b0 b1
 obtain ⟨n, hn⟩ : ∃ n, n = Pk.near high q 65536 := ⟨_, rfl⟩
 rw [← hn] at k1 h1 h2 h3
 have hnb := Pk.near_bd16 high q (by omega)
 rw [← hn] at hnb
 obtain ⟨n0, n1, _⟩ := hnb
 have n2 : n ≤ 281474976800000 := by omega
 have n3 : -40000 ≤ n := by omega
 have hv1 := zaq (high + 3000) (by omega) (by omega)
 have hv2 := zaq (high - 100) (by omega) (by omega)
 have K1 := H9 k1
 clear k1 n0 n1 hn
 have ej : (q == jump) = true := by rw [beq_iff_eq]; exact hj
 clear hj
 have hw : IntKind.u16.wrap (q + 1) = (q + 1) % 65536 := zcz _
 go_enter Tryz.func42, Tryz.ntmps42
 go_wp2_with fail
 refine (K1.out _).mono ?_
 rintro e w1 ⟨rfl, rfl⟩
 go_wp2_with fail
 exact bodyPost_ret (v := .tuple #[.agg #[.bool true, .int .i64 high, .int .i64 ((q + 1) % 65536)], .int .i64 0, .bool false]) (zaw Tryz.results42 rfl (run_loadVar_row (P := Tryz.prog) _ _ _ _ _ _ _ (Blk.new1 w _ _ _) Tryz.underlying42 rfl (by kernel_rfl)) rfl rfl) rfl ⟨rfl, Bel.push (Bel.push (Bel.refl w) _) _⟩
end
section
variable (high jump q : Int) (w : World)
end
section
variable (on : Bool) (high jump q : Int) (w : World)
theorem zlo (q0 : 0 ≤ q) (q1 : q ≤ 65535) (b0 : -9223372036854775808 ≤ high) (b1 : high ≤ 9223372036854775807) (c0 : -9223372036854775808 ≤ jump) (c1 : jump ≤ 9223372036854775807) : Calls Tryz.prog 42 #[.agg #[.bool on, .int .i64 high, .int .i64 jump], .int .u16 q] w fun e w' => e = .returned (.tuple #[.agg (Pk.follow ⟨on, high, jump⟩ q).1.row.toArray, .int .i64 (Pk.follow ⟨on, high, jump⟩ q).2.1, .bool (Pk.follow ⟨on, high, jump⟩ q).2.2]) ∧ Bel w w' := by
 unfold Pk.follow
 by_cases hok : Pk.Tr.ok ⟨on, high, jump⟩
 rotate_left
 · rw [if_pos hok]
   have hn : ¬(0 ≤ high ∧ high ≤ 281474976710656 ∧ -1 ≤ jump ∧ jump ≤ 65535) := hok
   by_cases h1 : high < 0
   · exact zjc high jump q w q0 q1 b0 b1 c0 c1 on h1
   by_cases h2 : 281474976710656 < high
   · exact zjd high jump q w q0 q1 b0 b1 c0 c1 on (by omega) h2
   by_cases h3 : jump < -1
   · exact zje high jump q w q0 q1 b0 b1 c0 c1 on (by omega) (by omega) h3
   · exact zjf high jump q w q0 q1 b0 b1 c0 c1 on (by omega) (by omega) (by omega) (by omega)
 rw [if_neg (fun h => h hok)]
 obtain ⟨g, g2, g3, g4⟩ : 0 ≤ high ∧ high ≤ 281474976710656 ∧ -1 ≤ jump ∧ jump ≤ 65535 := hok
 cases on
 · rw [if_pos rfl]
   exact zln high jump q w q0 q1 b0 b1 c0 c1 g g2 g3 g4
 rw [if_neg (by simp)]
 by_cases hin : 0 ≤ Pk.near high q 65536 ∧ Pk.near high q 65536 ≤ high + 3000 ∧ high - 100 ≤ Pk.near high q 65536
 · rw [if_pos hin]
   exact znp high jump q w q0 q1 b0 b1 c0 c1 g g2 g3 g4 hin.1 hin.2.1 hin.2.2
 rw [if_neg hin]
 by_cases hj : q = jump ∧ high < 140737488355328
 · rw [if_pos hj]
   by_cases h1 : 0 ≤ Pk.near high q 65536
   · by_cases h2 : Pk.near high q 65536 ≤ high + 3000
     · by_cases hz : (q - high) % 65536 = 0
       · rw [show Pk.gap high q = 65536 by unfold Pk.gap; rw [if_pos hz]]
         exact zgr high jump q w q0 q1 b0 b1 c0 c1 g g2 g3 g4 h1 h2 (by omega) hj.1 hj.2 hz
       · rw [show Pk.gap high q = (q - high) % 65536 by unfold Pk.gap; rw [if_neg hz]]
         exact zgs high jump q w q0 q1 b0 b1 c0 c1 g g2 g3 g4 h1 h2 (by omega) hj.1 hj.2 hz
     · by_cases hz : (q - high) % 65536 = 0
       · rw [show Pk.gap high q = 65536 by unfold Pk.gap; rw [if_pos hz]]
         exact zgp high jump q w q0 q1 b0 b1 c0 c1 g g2 g3 g4 h1 (by omega) hj.1 hj.2 hz
       · rw [show Pk.gap high q = (q - high) % 65536 by unfold Pk.gap; rw [if_neg hz]]
         exact zgq high jump q w q0 q1 b0 b1 c0 c1 g g2 g3 g4 h1 (by omega) hj.1 hj.2 hz
   · by_cases hz : (q - high) % 65536 = 0
     · rw [show Pk.gap high q = 65536 by unfold Pk.gap; rw [if_pos hz]]
       exact zgn high jump q w q0 q1 b0 b1 c0 c1 g g2 g3 g4 (by omega) hj.1 hj.2 hz
     · rw [show Pk.gap high q = (q - high) % 65536 by unfold Pk.gap; rw [if_neg hz]]
       exact zgo high jump q w q0 q1 b0 b1 c0 c1 g g2 g3 g4 (by omega) hj.1 hj.2 hz
 · rw [if_neg hj]
   by_cases hq : q = jump
   · have hh : 140737488355328 ≤ high := by omega
     by_cases h1 : 0 ≤ Pk.near high q 65536
     · by_cases h2 : Pk.near high q 65536 ≤ high + 3000
       · exact zjl high jump q w q0 q1 b0 b1 c0 c1 g g2 g3 g4 h1 h2 (by omega) hq hh
       · exact zjj high jump q w q0 q1 b0 b1 c0 c1 g g2 g3 g4 h1 (by omega) hq hh
     · exact zjh high jump q w q0 q1 b0 b1 c0 c1 g g2 g3 g4 (by omega) hq hh
   · by_cases h1 : 0 ≤ Pk.near high q 65536
     · by_cases h2 : Pk.near high q 65536 ≤ high + 3000
       · exact zjk high jump q w q0 q1 b0 b1 c0 c1 g g2 g3 g4 h1 h2 (by omega) hq
       · exact zji high jump q w q0 q1 b0 b1 c0 c1 g g2 g3 g4 h1 (by omega) hq
     · exact zjg high jump q w q0 q1 b0 b1 c0 c1 g g2 g3 g4 (by omega) hq
end
theorem znq {w W : World} {p : Sb.Pt} {A : Option Addr} {l : List TW} {n c : Nat} {x : Rx} {now : Int} (C : RC w p A l n c x now) (S : RS w W p A n c x) {R : Ending → World → Prop} {gt : Nat} {TC : Array Value} (BT : Blk W gt 108 TC) (hgt : w.heap.size < gt) (F : Pk.Tr) (fn : Int) (ok : Bool) (hF : Pk.follow p.tk x.sq = (F, fn, ok)) (hk0 : -9223372036854775808 ≤ p.tk.high) (hk1 : p.tk.high ≤ 9223372036854775807) (hk2 : -9223372036854775808 ≤ p.tk.jump) (hk3 : p.tk.jump ≤ 9223372036854775807)
 (h : ∀ (W : World) (a : Act), RS w W { p with tk := F } A n c x → Blk W gt 108 TC → FrU w.heap.size now gt p.tk.on fn ok a → firstWp Tryz.prog rcS_code (bodyPost Tryz.prog Tryz.f11 R) a W) (a : Act) (ha : FrB w.heap.size now gt true a) : firstWp Tryz.prog rcB_code (bodyPost Tryz.prog Tryz.f11 R) a W := by
 obtain ⟨s, rfl, e1, e3, e5, e6, e11, e12, _⟩ := ha
 rw [r164, e1, e3, e5, e6, e11, e12]
 clear e1 e3 e5 e6 e11 e12
 have k3 : ∀ W, Calls Tryz.prog 42 #[.agg #[.bool p.tk.on, .int .i64 p.tk.high, .int .i64 p.tk.jump], .int .u16 x.sq] W fun e w' => e = .returned (.tuple #[.agg #[.bool F.on, .int .i64 F.high, .int .i64 F.jump], .int .i64 fn, .bool ok]) ∧ Bel W w' := fun W => by
  have h := zlo p.tk.on p.tk.high p.tk.jump x.sq W C.q0 C.q1 hk0 hk1 hk2 hk3
  have e : (⟨p.tk.on, p.tk.high, p.tk.jump⟩ : Pk.Tr) = p.tk := rfl
  rw [e, hF] at h
  exact h
 replace k3 := H9 k3
 replace BT := H9 BT
 clear hF
 have x2 := S.c2
 have x28 := S.b0.tk.1
 refine zbe ?_
 intro _ _ _ _
 go_upto_region 14 with fail
 go_wp2_with (first | (refine zae rfl 42 (.tmp 71) rfl (w.heap.size) 28 rfl 48 (PL p A n c) S.b0 3 _ Tryz.underlying42 zgj (show 28 + 3 ≤ 48 by decide) (#[.bool p.tk.on, .int .i64 p.tk.high, .int .i64 p.tk.jump]) (by rfl) rfl ?_) | fail)
 refine (k3.out _).mono ?_
 rintro e w4 ⟨rfl, hb1⟩
 replace S := S.later hb1
 replace BT := H9 (BT.out.later hb1)
 clear hb1 k3 x2 x28
 have BK := H9 (Blk.new w4 42 #[.bool F.on, .int .i64 F.high, .int .i64 F.jump])
 obtain ⟨g3, hg3⟩ : ∃ g, g = w4.heap.size := ⟨_, rfl⟩
 replace S := S.push (.cells #[.bool F.on, .int .i64 F.high, .int .i64 F.jump] 42)
 replace BT := H9 (BT.out.push (.cells #[.bool F.on, .int .i64 F.high, .int .i64 F.jump] 42))
 obtain ⟨W5, hW5⟩ : ∃ W, W = w4.alloc (Obj.cells #[.bool F.on, .int .i64 F.high, .int .i64 F.jump] 42) := ⟨_, rfl⟩
 rw [← hg3, ← hW5] at BK
 go_upto_region 15 with fail
 rw [← hg3]
 rw [← hW5] at S BT ⊢
 clear hW5 hg3
 go_upto_region 16 with (first | (refine zae rfl 42 (.tmp 14) rfl (g3) 0 rfl 42 ([.bool F.on, .int .i64 F.high, .int .i64 F.jump]) BK.out 3 _ Tryz.underlying42 zgj (show 0 + 3 ≤ 3 by decide) (#[.bool F.on, .int .i64 F.high, .int .i64 F.jump]) (by rfl) rfl ?_) | (refine zaf rfl 42 (.tmp 80) (.tmp 79) rfl (w.heap.size) 28 rfl 48 (PL p A n c) S.b0 ([.bool F.on, .int .i64 F.high, .int .i64 F.jump]) rfl zgj (show 28 + 3 ≤ 48 by decide) rfl (PL { p with tk := F } A n c) rfl ?_; intro WF BF OF) | fail)
 replace S := S.over OF BF
 replace BT := H9 (OF.blk BT.out (by omega))
 clear BF OF BK
 refine zcw (by assumption) (by assumption) ?_
 exact h _ _ S BT.out FrU.mk
theorem ztp {w W : World} {p : Sb.Pt} {A : Option Addr} {l : List TW} {n c : Nat} {x : Rx} {now : Int} (C : RC w p A l n c x now) (S : RS w W p A n c x) {R : Ending → World → Prop} {gt : Nat} {on : Bool} {fn : Int}
 (h : ∀ (a : Act), FrC w.heap.size now gt on fn a → firstWp Tryz.prog rcC_code (bodyPost Tryz.prog Tryz.f11 R) a W) (a : Act) (ha : FrU w.heap.size now gt on fn true a) : firstWp Tryz.prog rcS_code (bodyPost Tryz.prog Tryz.f11 R) a W := by
 obtain ⟨s, rfl, e1, e3, e5, e6, e11, e13, e15, e16, _⟩ := ha
 rw [r164, e1, e3, e5, e6, e11, e13, e15, e16]
 clear e1 e3 e5 e6 e11 e13 e15 e16
 refine zbe ?_
 intro _ _ _ _
 go_upto_region 18 with fail
 refine zcw (by assumption) (by assumption) ?_
 exact h _ FrC.mk
end Go.Proofs.YtahbecinkciahaaGreat
namespace Go.Proofs.YtahbecinkciahaaGreat
open Go.RowKit
theorem zgt {a b : Bool} (h : a = b) : Ending.returned (.bool a) = .returned (.bool b) := by rw [h]
section
variable (lo hi : Int) (A : Option Addr) (xs : List Int) (c n : Nat) (w : World)
theorem zdx (hn : xs.length = n) (hA : IntsAt w w.heap.size .i64 A xs) (hl : n ≤ 100) :
 Calls Tryz.prog 145 #[.int .i64 lo, .int .i64 hi, .slice A n c] w fun e w' => e = .returned (.bool (Rep.all lo hi xs)) ∧ w = w' := by
 subst hn
 have HA := H9 hA
 clear hA
 go_enter Tryz.func145, Tryz.ntmps145
 go_wp2
 go_loop [11] (fun i => ∃ k : Nat, k ≤ xs.length ∧ i = .int .i64 k ∧ Hid (Rep.all lo hi (xs.take k) = true)) (fun i => xs.length - (intOf i).toNat)
 case atStart => exact ⟨0, Nat.zero_le _, rfl, H9 rfl⟩
 case round =>
  obtain ⟨k, hk, rfl, HK⟩ := hrel
  by_cases hlt : k < xs.length
  · obtain ⟨b, off, rfl, hbB, qc⟩ := HA.out (by omega)
    have hc := qc k hlt
    have hst := Rep.all_take lo hi xs k hlt
    rw [HK.out, Bool.true_and] at hst
    have HS := H9 hst
    have HF := H9 (Rep.all_false lo hi xs k hlt)
    clear qc hst
    have hi0 : (0 : Int) ≤ (k : Int) := by omega
    have hi1 : (k : Int) < (xs.length : Int) := by omega
    generalize xs.getD k 0 = x at *
    by_cases h1 : x < lo
    · have t1 : decide (x < lo) = true := by simpa using h1
      have HB := H9 (HF.out (by simp [Rep.inB]; omega))
      go_wp2
      go_ret
      exact ⟨zgt HB.out.symm, rfl⟩
    · have t1 : decide (x < lo) = false := by simpa using h1
      by_cases h2 : hi < x
      · have t2 : decide (hi < x) = true := by simpa using h2
        have HB := H9 (HF.out (by simp [Rep.inB]; omega))
        go_wp2
        go_ret
        exact ⟨zgt HB.out.symm, rfl⟩
      · have t2 : decide (hi < x) = false := by simpa using h2
        have hin : Rep.inB lo hi x = true := by rw [Rep.inB_iff]; omega
        have HI := H9 hin
        clear hin
        go_wp2
        go_round
        case rel => exact ⟨k + 1, by omega, by go_num, H9 (by rw [HS.out, HI.out])⟩
        case measure => simp [intOf]; omega
  · obtain rfl : k = xs.length := by omega
    have hf := HK.out
    rw [List.take_length] at hf
    have HF := H9 hf
    clear hf
    go_wp2
    go_ret
    exact ⟨zgt HF.out.symm, rfl⟩
end
section
variable (x y z : Int) (w : World)
theorem zey : Calls Tryz.prog 100 #[.int .i64 x] w fun e w' => e = .returned (.bool (Rep.small x)) ∧ w = w' := by
 have h : Rep.small x = (decide (-281474976710656 ≤ x) && decide (x ≤ 281474976710656)) := rfl
 rw [h]
 cases h1 : decide (-281474976710656 ≤ x) <;> cases h2 : decide (x ≤ 281474976710656)
 all_goals
  clear h
  go_enter Tryz.func100, Tryz.ntmps100
  go_wp2
  go_ret
  exact ⟨rfl, rfl⟩
end
theorem IntsAt.new_at (w : World) (e : TypeId) (k : IntKind) (zs : List Int) (cs : List Value) (h : cs = zs.map (Value.int k)) (g : Nat) (hg : w.heap.size = g) : IntsAt (w.alloc (.cells cs.toArray e)) (w.alloc (.cells cs.toArray e)).heap.size k (some ⟨g, 0, none⟩) zs := by
 subst hg
 exact IntsAt.new w e k zs cs h
section
variable (s0 : Bool) (sb sh sr sx sy st sj : Int) (w : World)
theorem Rep.okS_bd (h : Rep.okS ⟨s0, sb, sh, sr, sx, sy, st, sj⟩ = true) : -1125899906842624 ≤ sb ∧ sb ≤ 1125899906842624 ∧ -1125899906842624 ≤ sh ∧ sh ≤ 1125899906842624 ∧ -1125899906842624 ≤ st ∧ st ≤ 1125899906842624 ∧ sb ≤ sh ∧ 0 ≤ sr ∧ sr ≤ 1125899906842624 ∧ 0 ≤ sx ∧ sx ≤ 1125899906842624 ∧ 0 ≤ sy ∧ sy ≤ 1125899906842624 ∧ 0 ≤ sj ∧ sj ≤ 72057594037927936 := by
 rw [Rep.okS_iff] at h
 simp only at h
 omega
theorem znr : Calls Tryz.prog 99 #[.agg #[.bool s0, .int .i64 sb, .int .i64 sh, .int .i64 sr, .int .i64 sx, .int .i64 sy, .int .i64 st, .int .i64 sj]] w fun e w' => e = .returned (.bool (Rep.okS ⟨s0, sb, sh, sr, sx, sy, st, sj⟩)) ∧ Below w.heap.size w w' := by
 have h : Rep.okS ⟨s0, sb, sh, sr, sx, sy, st, sj⟩ = (Rep.all (-1125899906842624) 1125899906842624 [sb, sh, st] && decide (sb ≤ sh) && Rep.all 0 1125899906842624 [sr, sx, sy] && Rep.all 0 72057594037927936 [sj]) := rfl
 rw [h]
 clear h
 have k1 := fun A c W h => zdx (-1125899906842624) 1125899906842624 A [sb, sh, st] c 3 W rfl h (by omega)
 have k2 := fun A c W h => zdx 0 1125899906842624 A [sr, sx, sy] c 3 W rfl h (by omega)
 have k3 := fun A c W h => zdx 0 72057594037927936 A [sj] c 1 W rfl h (by omega)
 generalize Rep.all (-1125899906842624) 1125899906842624 [sb, sh, st] = b1 at *
 generalize Rep.all 0 1125899906842624 [sr, sx, sy] = b3 at *
 generalize Rep.all 0 72057594037927936 [sj] = b4 at *
 have K1 := H9 k1
 have K2 := H9 k2
 have K3 := H9 k3
 clear k1 k2 k3
 cases b1
 · go_enter Tryz.func99, Tryz.ntmps99
   go_wp2_with fail
   refine (K1.out _ _ _ (IntsAt.new_at (w.alloc (.cells #[.bool s0, .int .i64 sb, .int .i64 sh, .int .i64 sr, .int .i64 sx, .int .i64 sy, .int .i64 st, .int .i64 sj] 44)) 2 .i64 [sb, sh, st] [.int .i64 sb, .int .i64 sh, .int .i64 st] rfl _ (by rw [zbd]))).mono ?_
   rintro e w1 ⟨rfl, rfl⟩
   go_wp2
   go_ret
   exact ⟨rfl, Bel.push (Bel.push (Bel.refl w) _) _⟩
 · cases hb : decide (sb ≤ sh)
   · go_enter Tryz.func99, Tryz.ntmps99
     go_wp2_with fail
     refine (K1.out _ _ _ (IntsAt.new_at (w.alloc (.cells #[.bool s0, .int .i64 sb, .int .i64 sh, .int .i64 sr, .int .i64 sx, .int .i64 sy, .int .i64 st, .int .i64 sj] 44)) 2 .i64 [sb, sh, st] [.int .i64 sb, .int .i64 sh, .int .i64 st] rfl _ (by rw [zbd]))).mono ?_
     rintro e w1 ⟨rfl, rfl⟩
     go_wp2
     go_ret
     exact ⟨rfl, Bel.push (Bel.push (Bel.refl w) _) _⟩
   · cases b3
     · go_enter Tryz.func99, Tryz.ntmps99
       go_wp2_with fail
       refine (K1.out _ _ _ (IntsAt.new_at (w.alloc (.cells #[.bool s0, .int .i64 sb, .int .i64 sh, .int .i64 sr, .int .i64 sx, .int .i64 sy, .int .i64 st, .int .i64 sj] 44)) 2 .i64 [sb, sh, st] [.int .i64 sb, .int .i64 sh, .int .i64 st] rfl _ (by rw [zbd]))).mono ?_
       rintro e w1 ⟨rfl, rfl⟩
       go_wp2_with fail
       refine (K2.out _ _ _ (IntsAt.new_at ((w.alloc (.cells #[.bool s0, .int .i64 sb, .int .i64 sh, .int .i64 sr, .int .i64 sx, .int .i64 sy, .int .i64 st, .int .i64 sj] 44)).alloc (.cells #[.int .i64 sb, .int .i64 sh, .int .i64 st] 2)) 2 .i64 [sr, sx, sy] [.int .i64 sr, .int .i64 sx, .int .i64 sy] rfl _ (by rw [zak]))).mono ?_
       rintro e w1 ⟨rfl, rfl⟩
       go_wp2
       go_ret
       exact ⟨rfl, Bel.push (Bel.push (Bel.push (Bel.refl w) _) _) _⟩
     · go_enter Tryz.func99, Tryz.ntmps99
       go_wp2_with fail
       refine (K1.out _ _ _ (IntsAt.new_at (w.alloc (.cells #[.bool s0, .int .i64 sb, .int .i64 sh, .int .i64 sr, .int .i64 sx, .int .i64 sy, .int .i64 st, .int .i64 sj] 44)) 2 .i64 [sb, sh, st] [.int .i64 sb, .int .i64 sh, .int .i64 st] rfl _ (by rw [zbd]))).mono ?_
       rintro e w1 ⟨rfl, rfl⟩
       go_wp2_with fail
       refine (K2.out _ _ _ (IntsAt.new_at ((w.alloc (.cells #[.bool s0, .int .i64 sb, .int .i64 sh, .int .i64 sr, .int .i64 sx, .int .i64 sy, .int .i64 st, .int .i64 sj] 44)).alloc (.cells #[.int .i64 sb, .int .i64 sh, .int .i64 st] 2)) 2 .i64 [sr, sx, sy] [.int .i64 sr, .int .i64 sx, .int .i64 sy] rfl _ (by rw [zak]))).mono ?_
       rintro e w1 ⟨rfl, rfl⟩
       go_wp2_with fail
       refine (K3.out _ _ _ (IntsAt.new_at (((w.alloc (.cells #[.bool s0, .int .i64 sb, .int .i64 sh, .int .i64 sr, .int .i64 sx, .int .i64 sy, .int .i64 st, .int .i64 sj] 44)).alloc (.cells #[.int .i64 sb, .int .i64 sh, .int .i64 st] 2)).alloc (.cells #[.int .i64 sr, .int .i64 sx, .int .i64 sy] 2)) 2 .i64 [sj] [.int .i64 sj] rfl _ (by rw [ziy]))).mono ?_
       rintro e w1 ⟨rfl, rfl⟩
       go_wp2
       go_ret
       exact ⟨rfl, Bel.push (Bel.push (Bel.push (Bel.push (Bel.refl w) _) _) _) _⟩
end
end Go.Proofs.YtahbecinkciahaaGreat
