/- Layer 28: one contract for each function of the program and of the reference, over all inputs; Same, size, lives. -/
import Derived.Test.YtahbecinkciahaaSbDecsQ
import Derived.Test.YtahbecinkciahaaJtCopyQ
import Derived.RegionTactic
import Derived.ChangeAlike
import Derived.Test.YtahbecinkciahaaJtPlainQ
import Derived.Deep.RegionHeld3
import Derived.Test.YtahbecinkciahaaJtPutG1Q
import Derived.Laws.BitsAllLaws
import Derived.Laws.Rows
import Derived.Deep.LoopGhost
namespace Go.Proofs.Ytahbecinkciahaa
open Go.RowKit
set_option linter.unusedVariables false

/-- what Encode returns: code, value, index, error -/
def Dlt.encR (v i x : Int) : Int × Int × Int × Int := if Dlt.valid v i = true then (Dlt.code v i x, Dlt.nextV v i (Dlt.code v i x), Dlt.nextI i (Dlt.code v i x), 0) else (0, 0, 0, 2)
/-- what Decode returns: sample, value, index, error -/
def Dlt.decR (v i c : Int) : Int × Int × Int × Int := if Dlt.valid v i = true then (if c ≤ 15 then (Dlt.nextV v i c, Dlt.nextV v i c, Dlt.nextI i c, 0) else (0, 0, 0, 3)) else (0, 0, 0, 2)
/-- what Pack returns: bytes, value, index, error -/
def Dlt.packR (v i : Int) (zs : List Int) : List Int × Int × Int × Int :=
  if Dlt.valid v i = true then (if zs.length ≤ 8000 then (Dlt.packB (v, i) zs, (Dlt.stAt (v, i) zs zs.length).1, (Dlt.stAt (v, i) zs zs.length).2, 0) else ([], 0, 0, 4)) else ([], 0, 0, 2)
/-- what Unpack returns: samples, value, index, error -/
def Dlt.unpR (bs : List Int) (n : Int) : List Int × Int × Int × Int :=
  if n < 0 ∨ 8000 < n then ([], 0, 0, 3) else if bs.length < 4 + (n.toNat + 1) / 2 then ([], 0, 0, 6) else
    if Dlt.okB bs n.toNat then (Dlt.unpackL bs n.toNat, (Dlt.dAt (Dlt.headS bs) bs n.toNat).1, (Dlt.dAt (Dlt.headS bs) bs n.toNat).2, 0) else ([], 0, 0, 5)
section
variable (v i x : Int) (w : World)
variable (A : Option Addr) (zs : List Int) (cap : Nat)
variable (bs : List Int) (n : Int)
theorem Dlt.unpackL_len (bs : List Int) (n : Nat) : (Dlt.unpackL bs n).length = n := by simp [Dlt.unpackL]
end
end Go.Proofs.Ytahbecinkciahaa
/- Layer 32: the codecs' decoders, called by value. -/
namespace Go.Proofs.Ytahbecinkciahaa
open Go.RowKit
set_option linter.unusedVariables false
set_option linter.unusedSimpArgs false
attribute [local go_sem ↓] run_min_plain run_max_plain
attribute [local go_sem] setCell_drewN alloc_drewN
/-- what a decoder leaves -/
def DecR (zs : List Int) (er : Int) (w : World) (e : Ending) (w' : World) : Prop := ∃ (A' : Option Addr) (c' : Nat), e = .returned (.tuple #[.slice A' zs.length c', .int .u8 er]) ∧ IntsNew w.heap.size w' .i16 A' zs ∧ Below w.heap.size w w'
theorem Unpack_anyN (A : Option Addr) (bs : List Int) (cap : Nat) (n : Int) (w : World) (hA : IntsAt w w.heap.size .u8 A bs) (hz : Within 0 255 bs) (hcap : bs.length ≤ cap) (hmax : bs.length ≤ maxLen) :
    Calls Try.prog 45 #[.slice A bs.length cap, .int .i64 n] w fun e w' => ∃ (A' : Option Addr) (c' : Nat), e = .returned (.tuple #[.slice A' (Dlt.unpR bs n).1.length c', .agg #[.int .i64 (Dlt.unpR bs n).2.1, .int .i64 (Dlt.unpR bs n).2.2.1], .int .u8 (Dlt.unpR bs n).2.2.2]) ∧
      IntsNew w.heap.size w' .i16 A' (Dlt.unpR bs n).1 ∧ Below w.heap.size w w' := by
  unfold Dlt.unpR
  by_cases hr : n < 0 ∨ 8000 < n
  · rw [if_pos hr]
    refine (Unpack_range n A bs.length cap w hr).mono ?_
    rintro e w' ⟨rfl, hb⟩
    exact ⟨none, 0, rfl, IntsNew.nil, hb⟩
  · rw [if_neg hr]
    obtain ⟨m, rfl⟩ := Int.eq_ofNat_of_zero_le (a := n) (by omega)
    rw [Int.toNat_natCast]
    by_cases hs : bs.length < 4 + (m + 1) / 2
    · rw [if_pos hs]
      refine (Unpack_short m A bs.length cap w (by omega) hs).mono ?_
      rintro e w' ⟨rfl, hb⟩
      exact ⟨none, 0, rfl, IntsNew.nil, hb⟩
    · rw [if_neg hs]
      by_cases hk : Dlt.okB bs m
      · rw [if_pos hk]
        rcases Nat.eq_zero_or_pos m with h0 | h0
        · subst h0
          refine (Unpack_zero A bs cap w hA hz hk hcap).mono ?_
          rintro e w' ⟨A', c', rfl, h, hb⟩
          exact ⟨A', c', rfl, ⟨h, fun h0 => absurd h0 (by simp [Dlt.unpackL])⟩, hb⟩
        · refine (Unpack_okN m A bs cap w (by omega) h0 hA hz hk hcap).mono ?_
          rintro e w' ⟨A', c', rfl, h⟩
          exact ⟨A', c', by rw [Dlt.unpackL_len], h⟩
      · rw [if_neg hk]
        refine (Unpack_syntax m A bs cap w (by omega) hA hz (by omega) hk hmax).mono ?_
        rintro e w' ⟨rfl, hb⟩
        exact ⟨none, 0, rfl, IntsNew.nil, hb⟩
set_option maxRecDepth 100000 in
set_option maxHeartbeats 12800000 in
theorem dec_mu (n : Int) (A : Option Addr) (bs : List Int) (c b : Nat) (w : World) (hA : IntsAt w w.heap.size .u8 A bs) (hz : Within 0 255 bs) (h8 : bs.length ≤ 8000) (hb : Blk w b 5 #[.int .u8 1]) : Calls Try.prog 69 #[.slice A bs.length c, .int .i64 n, .pointer (some ⟨b, 0, none⟩)] w (DecR (bs.map Cmp.fromMuZ) 0 w) := by
  have k1 := Lib.hid fun (W : World) hW => Unpack_muN A bs c W hW hz h8
  have IA := Lib.hid hA
  have BB := Lib.hid hb
  have hlt := hb.lt
  clear hA hb hz
  go_enter Try.func69, Try.ntmps69
  have d0 := BB.out.at 0 _ rfl
  go_wp2_with fail
  refine (k1.out _ IA.out).mono ?_
  rintro e w1 ⟨A1, rfl, hI, hb1⟩
  clear d0
  go_wp2_with fail
  exact bodyPost_ret (v := .tuple #[.slice A1 bs.length bs.length, .int .u8 0]) (by simp [results, Try.results69, go_sem]) rfl ⟨A1, bs.length, by rw [List.length_map], hI, hb1⟩
set_option maxRecDepth 100000 in
set_option maxHeartbeats 12800000 in
theorem dec_a (n : Int) (A : Option Addr) (bs : List Int) (c b : Nat) (w : World) (hA : IntsAt w w.heap.size .u8 A bs) (hz : Within 0 255 bs) (h8 : bs.length ≤ 8000) (hb : Blk w b 5 #[.int .u8 2]) : Calls Try.prog 69 #[.slice A bs.length c, .int .i64 n, .pointer (some ⟨b, 0, none⟩)] w (DecR (bs.map Cmp.fromAZ) 0 w) := by
  have k1 := Lib.hid fun (W : World) hW => Unpack_aN A bs c W hW hz h8
  have IA := Lib.hid hA
  have BB := Lib.hid hb
  have hlt := hb.lt
  clear hA hb hz
  go_enter Try.func69, Try.ntmps69
  have d0 := BB.out.at 0 _ rfl
  go_wp2_with fail
  refine (k1.out _ IA.out).mono ?_
  rintro e w1 ⟨A1, rfl, hI, hb1⟩
  clear d0
  go_wp2_with fail
  exact bodyPost_ret (v := .tuple #[.slice A1 bs.length bs.length, .int .u8 0]) (by simp [results, Try.results69, go_sem]) rfl ⟨A1, bs.length, by rw [List.length_map], hI, hb1⟩
set_option maxRecDepth 100000 in
set_option maxHeartbeats 12800000 in
theorem dec_del (n : Int) (A : Option Addr) (bs : List Int) (c : Nat) (w : World) (hA : IntsAt w w.heap.size .u8 A bs) (hz : Within 0 255 bs) (hc : bs.length ≤ c) (hm : bs.length ≤ maxLen) : Calls Try.prog 44 #[.slice A bs.length c, .int .i64 n] w (DecR (Dlt.unpR bs n).1 (Dlt.unpR bs n).2.2.2 w) := by
  have k1 := Lib.hid fun (W : World) hW => Unpack_anyN A bs c n W hW hz hc hm
  generalize Dlt.unpR bs n = R at *
  obtain ⟨R1, R2, R3, R4⟩ := R
  have IA := Lib.hid hA
  clear hA hz
  go_enter Try.func44, Try.ntmps44
  go_wp2_with fail
  refine (k1.out _ IA.out).mono ?_
  rintro e w1 ⟨A1, c1, rfl, hI, hb1⟩
  have HI := Lib.hid hI
  have U := Lib.hid hb1
  clear hI hb1
  go_wp2_with fail
  go_ret2
  exact ⟨A1, c1, rfl, HI.out.push _, Bel.push U.out _⟩
end Go.Proofs.Ytahbecinkciahaa
/- Layer 32: decode. -/
namespace Go.Proofs.Ytahbecinkciahaa
open Go.RowKit
set_option linter.unusedVariables false
set_option linter.unusedSimpArgs false
attribute [local go_sem ↓] run_min_plain run_max_plain
attribute [local go_sem] setCell_drewN alloc_drewN
/-- what decode leaves -/
def DecodeR (d : List Int × Int) (w : World) (e : Ending) (w' : World) : Prop := ∃ (A' : Option Addr) (c' : Nat), e = .returned (.tuple #[.slice A' d.1.length c', .int .u32 d.2]) ∧ IntsNew w.heap.size w' .i16 A' d.1 ∧ Below w.heap.size w w'
theorem unp160 (bs : List Int) : (Dlt.unpR bs 160).1 = Sb.decS 96 bs ∧ ((Dlt.unpR bs 160).2.2.2 ≠ 0 → (Dlt.unpR bs 160).1 = []) := by
  have e : Sb.decS 96 bs = if Sb.Dlt.fits bs 160 then Dlt.unpackL bs 160 else [] := by unfold Sb.decS; rw [if_neg (by decide), if_neg (by decide), if_pos rfl]
  rw [e]
  unfold Dlt.unpR
  rw [if_neg (by decide), show (160 : Int).toNat = 160 from rfl]
  by_cases h1 : bs.length < 4 + (160 + 1) / 2
  · rw [if_pos h1, if_neg (fun h => by have := h.1; omega)]
    exact ⟨rfl, fun _ => rfl⟩
  rw [if_neg h1]
  by_cases h2 : Dlt.okB bs 160
  · rw [if_pos h2, if_pos (show Sb.Dlt.fits bs 160 from h2)]
    exact ⟨rfl, fun h => absurd rfl h⟩
  · rw [if_neg h2, if_neg (show ¬Sb.Dlt.fits bs 160 from h2)]
    exact ⟨rfl, fun _ => rfl⟩
set_option maxRecDepth 100000 in
set_option maxHeartbeats 12800000 in
theorem decode_n0 (A : Option Addr) (bs : List Int) (c : Nat) (seed : Int) (w : World) (hA : IntsAt w w.heap.size .u8 A bs) (hz : Within 0 255 bs) (h8 : bs.length ≤ 8000) (h1 : bs.length ≠ 1) : Calls Try.prog 65 #[.int .u8 13, .slice A bs.length c, .int .u32 seed] w (DecodeR ([], seed) w) := by
  have hl1 : ¬(bs.length : Int) = 1 := by omega
  clear hA hz
  go_enter Try.func65, Try.ntmps65
  go_wp2_with fail
  go_ret2
  exact ⟨none, 0, rfl, IntsNew.nil, Below.refl _ _⟩
set_option maxRecDepth 100000 in
set_option maxHeartbeats 12800000 in
theorem decode_n1 (A : Option Addr) (bs : List Int) (c : Nat) (seed : Int) (w : World) (hA : IntsAt w w.heap.size .u8 A bs) (hz : Within 0 255 bs) (h8 : bs.length ≤ 8000) (h1 : bs.length = 1) (s0 : 0 ≤ seed) (s1 : seed ≤ 4294967295) : Calls Try.prog 65 #[.int .u8 13, .slice A bs.length c, .int .u32 seed] w (DecodeR ((Ev.noise (bs.getD 0 0) seed 160).1, (Ev.noise (bs.getD 0 0) seed 160).2.1) w) := by
  obtain ⟨x, rfl⟩ : ∃ x, bs = [x] := by
    match bs, h1 with
    | [x], _ => exact ⟨x, rfl⟩
  obtain ⟨x0, x1⟩ := hz x (by simp)
  obtain ⟨b, off, rfl, hbB, hcell⟩ := hA (by simp)
  have c0 := hcell 0 (by simp)
  have k1 := Lib.hid fun (W : World) => Noise_okN x seed W 160 x0 x1 s0 s1 (by omega)
  have e : ((Ev.noise ([x].getD 0 0) seed 160).1, (Ev.noise ([x].getD 0 0) seed 160).2.1) = ((List.range 160).map (fun k => Ev.nsamp (Ev.amp (x / 6).toNat) seed k), Ev.seed seed 160) := by
    show ((Ev.noise x seed 160).1, (Ev.noise x seed 160).2.1) = _
    unfold Ev.noise
    rw [if_neg (by decide)]; rfl
  rw [e]
  clear hcell e hz h1
  simp only [List.getD_cons_zero, Nat.add_zero] at c0
  go_enter Try.func65, Try.ntmps65
  go_wp2_with fail
  refine (k1.out _).mono ?_
  rintro e w1 ⟨A1, c1, rfl, hI, hb1⟩
  go_wp2_with fail
  go_ret2
  exact ⟨A1, c1, by simp, hI, hb1⟩
set_option maxRecDepth 100000 in
set_option maxHeartbeats 12800000 in
theorem decode_mu (A : Option Addr) (bs : List Int) (c : Nat) (seed : Int) (w : World) (hA : IntsAt w w.heap.size .u8 A bs) (hz : Within 0 255 bs) (h8 : bs.length ≤ 8000) : Calls Try.prog 65 #[.int .u8 0, .slice A bs.length c, .int .u32 seed] w (DecodeR (bs.map Cmp.fromMuZ, seed) w) := by
  have HA := Lib.hid hA
  clear hA
  go_enter Try.func65, Try.ntmps65
  go_wp2_with fail
  refine (codecs_any _).mono ?_
  rintro e w1 ⟨b, b1, b2, rfl, C, hb1⟩
  have kl := (look_codec C 0 (by omega) (by omega)).2
  have BL := Lib.hid C.l1
  have HB := Lib.hid hb1
  have IA := Lib.hid ((HA.out.later hb1).push (.cells (cLaw b1).cells 96))
  rw [show cAt b1 b2 0 = cLaw b1 from rfl, show speechB 0 = true from rfl] at kl
  simp only [cLaw, cDel] at kl
  clear C hb1 HA
  have BL2 := Lib.hid (BL.out.push (.cells (cLaw b1).cells 96))
  go_wp2_with fail
  refine (dec_mu 160 A bs c b1 _ IA.out hz h8 BL2.out).mono ?_
  rintro e w2 ⟨A1, c1, rfl, hI, hb2⟩
  have hs := HB.out.size
  have HI := Lib.hid (hI.less (m := w.heap.size) (by rw [size_alloc1]; omega))
  have U := Lib.hid (((Bel.later (Bel.refl w) HB.out).push (.cells (cLaw b1).cells 96)).later hb2)
  clear hI hb2 HB
  go_wp2_with fail
  go_ret2
  exact ⟨A1, c1, by simp, HI.out, U.out⟩
set_option maxRecDepth 100000 in
set_option maxHeartbeats 12800000 in
theorem decode_a (A : Option Addr) (bs : List Int) (c : Nat) (seed : Int) (w : World) (hA : IntsAt w w.heap.size .u8 A bs) (hz : Within 0 255 bs) (h8 : bs.length ≤ 8000) : Calls Try.prog 65 #[.int .u8 8, .slice A bs.length c, .int .u32 seed] w (DecodeR (bs.map Cmp.fromAZ, seed) w) := by
  have HA := Lib.hid hA
  clear hA
  go_enter Try.func65, Try.ntmps65
  go_wp2_with fail
  refine (codecs_any _).mono ?_
  rintro e w1 ⟨b, b1, b2, rfl, C, hb1⟩
  have kl := (look_codec C 8 (by omega) (by omega)).2
  have BL := Lib.hid C.l2
  have HB := Lib.hid hb1
  have IA := Lib.hid ((HA.out.later hb1).push (.cells (cLaw b2).cells 96))
  rw [show cAt b1 b2 8 = cLaw b2 from rfl, show speechB 8 = true from rfl] at kl
  simp only [cLaw, cDel] at kl
  clear C hb1 HA
  have BL2 := Lib.hid (BL.out.push (.cells (cLaw b2).cells 96))
  go_wp2_with fail
  refine (dec_a 160 A bs c b2 _ IA.out hz h8 BL2.out).mono ?_
  rintro e w2 ⟨A1, c1, rfl, hI, hb2⟩
  have hs := HB.out.size
  have HI := Lib.hid (hI.less (m := w.heap.size) (by rw [size_alloc1]; omega))
  have U := Lib.hid (((Bel.later (Bel.refl w) HB.out).push (.cells (cLaw b2).cells 96)).later hb2)
  clear hI hb2 HB
  go_wp2_with fail
  go_ret2
  exact ⟨A1, c1, by simp, HI.out, U.out⟩
set_option maxRecDepth 100000 in
set_option maxHeartbeats 12800000 in
theorem decode_del (A : Option Addr) (bs : List Int) (c : Nat) (seed : Int) (w : World) (hA : IntsAt w w.heap.size .u8 A bs) (hz : Within 0 255 bs) (h8 : bs.length ≤ 8000) (hc : bs.length ≤ c) : Calls Try.prog 65 #[.int .u8 96, .slice A bs.length c, .int .u32 seed] w (DecodeR (Sb.decS 96 bs, seed) w) := by
  have HA := Lib.hid hA
  clear hA
  have hm : bs.length ≤ maxLen := by unfold maxLen; omega
  obtain ⟨un1, un2⟩ := unp160 bs
  go_enter Try.func65, Try.ntmps65
  go_wp2_with fail
  refine (codecs_any _).mono ?_
  rintro e w1 ⟨b, b1, b2, rfl, C, hb1⟩
  have kl := (look_codec C 96 (by omega) (by omega)).2
  have HB := Lib.hid hb1
  have IA := Lib.hid ((HA.out.later hb1).push (.cells cDel.cells 96))
  rw [show cAt b1 b2 96 = cDel from rfl, show speechB 96 = true from rfl] at kl
  simp only [cLaw, cDel] at kl
  clear C hb1 HA
  go_wp2_with fail
  refine (dec_del 160 A bs c _ IA.out hz hc hm).mono ?_
  rintro e w2 ⟨A1, c1, rfl, hI, hb2⟩
  have hs := HB.out.size
  have HI := Lib.hid (hI.less (m := w.heap.size) (by rw [size_alloc1]; omega))
  have U := Lib.hid (((Bel.later (Bel.refl w) HB.out).push (.cells cDel.cells 96)).later hb2)
  clear hI hb2 HB
  generalize Dlt.unpR bs 160 = R at *
  obtain ⟨R1, R2, R3, R4⟩ := R
  replace un1 : R1 = Sb.decS 96 bs := un1
  subst un1
  by_cases h4 : R4 = 0
  rotate_left
  · have e4 := Lib.hid (show Sb.decS 96 bs = [] from un2 h4)
    clear un2
    go_wp2_with fail
    go_ret2
    exact ⟨none, 0, by rw [e4.out]; rfl, by rw [e4.out]; exact IntsNew.nil, U.out⟩
  subst h4
  clear un2
  go_wp2_with fail
  go_ret2
  exact ⟨A1, c1, by simp, HI.out, U.out⟩
set_option maxRecDepth 100000 in
set_option maxHeartbeats 12800000 in
theorem decode_no (A : Option Addr) (bs : List Int) (c : Nat) (seed : Int) (w : World) (hA : IntsAt w w.heap.size .u8 A bs) (hz : Within 0 255 bs) (h8 : bs.length ≤ 8000) (k : Int) (hk0 : 0 ≤ k) (hk1 : k ≤ 255) (h13 : ¬k = 13) (hs : ¬(k = 0 ∨ k = 8 ∨ k = 96)) : Calls Try.prog 65 #[.int .u8 k, .slice A bs.length c, .int .u32 seed] w (DecodeR ([], seed) w) := by
  have HA := Lib.hid hA
  clear hA
  go_enter Try.func65, Try.ntmps65
  go_wp2_with fail
  refine (codecs_any _).mono ?_
  rintro e w1 ⟨b, b1, b2, rfl, C, hb1⟩
  have kl := (look_codec C k (by omega) (by omega)).2
  have HB := Lib.hid hb1
  have IA := Lib.hid ((HA.out.later hb1).push (.cells cNil.cells 96))
  rw [show cAt b1 b2 k = cNil by unfold cAt; rw [if_neg (by omega), if_neg (by omega), if_neg (by omega)], speechB_f hs] at kl
  simp only [cNil] at kl
  clear C hb1 HA
  go_wp2_with fail
  go_ret2
  exact ⟨none, 0, rfl, IntsNew.nil, (Bel.later (Bel.refl w) HB.out).push _⟩
theorem sdecode_any (k : Int) (A : Option Addr) (bs : List Int) (c : Nat) (seed : Int) (w : World) (hA : IntsAt w w.heap.size .u8 A bs) (hz : Within 0 255 bs) (h8 : bs.length ≤ 8000) (hk0 : 0 ≤ k) (hk1 : k ≤ 255) (s0 : 0 ≤ seed) (s1 : seed ≤ 4294967295) (hc : k = 96 → bs.length ≤ c) : Calls Try.prog 65 #[.int .u8 k, .slice A bs.length c, .int .u32 seed] w (DecodeR (Sb.dec k bs seed) w) := by
  unfold Sb.dec
  by_cases h13 : k = 13
  · subst h13
    rw [if_pos rfl]
    by_cases h1 : bs.length = 1
    · rw [if_pos h1]; exact decode_n1 A bs c seed w hA hz h8 h1 s0 s1
    · rw [if_neg h1]; exact decode_n0 A bs c seed w hA hz h8 h1
  rw [if_neg h13]
  by_cases h0 : k = 0
  · subst h0; exact decode_mu A bs c seed w hA hz h8
  by_cases h2 : k = 8
  · subst h2; exact decode_a A bs c seed w hA hz h8
  by_cases h3 : k = 96
  · subst h3; exact decode_del A bs c seed w hA hz h8 (hc rfl)
  have e : Sb.decS k bs = [] := by unfold Sb.decS; rw [if_neg h0, if_neg h2, if_neg h3]
  rw [e]
  exact decode_no A bs c seed w hA hz h8 k hk0 hk1 h13 (by omega)
end Go.Proofs.Ytahbecinkciahaa
/- Layer 32: sounds. -/
namespace Go.Proofs.Ytahbecinkciahaa
open Go.RowKit
set_option linter.unusedVariables false
set_option linter.unusedSimpArgs false
attribute [local go_sem ↓] run_min_plain run_max_plain
attribute [local go_sem] setCell_drewN alloc_drewN
theorem SOwn.drew {w : World} {base n c : Nat} {A : Option Addr} {l : List TS} (h : SOwn w base A n c l) : SOwn w.drew base A n c l := ⟨h.len, h.own, h.pay, h.far, h.new⟩
theorem PB.set {W : World} {g : Nat} {p : Sb.Pt} {A : Option Addr} {n c : Nat} (h : PB W g p A n c) (i : Nat) (v : Value) (p' : Sb.Pt) (hp : (PL p A n c).set i v = PL p' A n c) : PB (W.setCell ⟨g, i, none⟩ v) g p' A n c := by
  have := Blk.set_ h i v
  unfold PB PA
  rw [← hp]
  unfold PA at this
  simpa using this
/-- a packet that decode takes -/
structure OkP (a : TW) : Prop where
  t0 : 0 ≤ a.w.m.ty
  t1 : a.w.m.ty ≤ 255
  z : Within 0 255 a.w.m.pl
  len : a.w.m.pl.length ≤ 8000
  cap : a.w.m.ty = 96 → a.w.m.pl.length ≤ a.c
theorem dec_seed (k : Int) (pl : List Int) (s : Int) (h0 : 0 ≤ s) (h1 : s ≤ 4294967295) : 0 ≤ (Sb.dec k pl s).2 ∧ (Sb.dec k pl s).2 ≤ 4294967295 := by
  unfold Sb.dec
  split
  · split
    · have e : (Ev.noise (pl.getD 0 0) s 160).2.1 = Ev.seed s 160 := by unfold Ev.noise; rw [if_neg (by decide)]; rfl
      show 0 ≤ (Ev.noise (pl.getD 0 0) s 160).2.1 ∧ (Ev.noise (pl.getD 0 0) s 160).2.1 ≤ 4294967295
      rw [e]
      exact Sb.noise_seed 0 s h0 h1 160
    · exact ⟨h0, h1⟩
  · exact ⟨h0, h1⟩
theorem sounds_seed : ∀ (l : List Jb.Wt) (s : Int), 0 ≤ s → s ≤ 4294967295 → 0 ≤ (Sb.sounds s l).1 ∧ (Sb.sounds s l).1 ≤ 4294967295
  | [], s, h0, h1 => ⟨h0, h1⟩
  | a :: l, s, h0, h1 => by
    have h := dec_seed a.m.ty a.m.pl s h0 h1
    exact sounds_seed l _ h.1 h.2
/-- what sounds leaves -/
def SoundsR (p : Sb.Pt) (A : Option Addr) (n c : Nat) (l : List TW) (w : World) (e : Ending) (w' : World) : Prop :=
  ∃ (A' : Option Addr) (c' : Nat) (ls : List TS), e = .returned (.tuple #[.agg (PA { p with seed := (Sb.sounds p.seed (l.map TW.w)).1 } A n c), .slice A' l.length c']) ∧ ls.map TS.s = (Sb.sounds p.seed (l.map TW.w)).2 ∧ SOwn w' (w.heap.size + 3) A' l.length c' ls ∧ Below w.heap.size w w'
set_option maxRecDepth 100000 in
set_option maxHeartbeats 12800000 in
theorem sounds_any (p : Sb.Pt) (s0 : 0 ≤ p.seed) (s1 : p.seed ≤ 4294967295) (A : Option Addr) (n c : Nat) (X : Array Value) (hX : X = PA p A n c) (PA1 : Option Addr) (l : List TW) (m pc : Nat) (w : World) (hm : l.length = m) (hml : m ≤ 100000) (hA : Wts w w.heap.size PA1 l) (hok : ∀ a ∈ l, OkP a) : Calls Try.prog 35 #[.agg X, .slice PA1 m pc] w (SoundsR p A n c l w) := by
  subst hm
  have HA := Lib.hid hA
  have HP := Lib.hid hok
  clear hA hok
  have B0 := Lib.hid (((PB.new w X hX).push (.cells (PA Sb.Pt.zero none 0 0) 43)).push (.cells #[.slice none 0 0] 64))
  have B1 := Lib.hid ((Blk.new1 w (.cells X 43) 43 (PA Sb.Pt.zero none 0 0)).push (.cells #[.slice none 0 0] 64))
  have B2 := Lib.hid (Blk.new2 w (.cells X 43) (.cells (PA Sb.Pt.zero none 0 0) 43) 64 #[.slice none 0 0])
  have U0 := Lib.hid ((((Bel.refl w).push (.cells X 43)).push (.cells (PA Sb.Pt.zero none 0 0) 43)).push (.cells #[.slice none 0 0] 64))
  have hmf : ∀ (fn : Fn) (first cap : Array Value) (w : World), (Instr.makeFunc fn first cap).run Try.prog w = .ok (.func fn first cap) w := fun _ _ _ _ => rfl
  have HS0 := Lib.hid (show (0 : Int) ≤ p.seed ∧ p.seed ≤ 4294967295 from ⟨s0, s1⟩)
  clear hX s0 s1
  go_enter Try.func35, Try.ntmps35
  go_upto_region 2 with fail
  obtain ⟨W0, hW0⟩ : ∃ W, W = ((w.alloc (Obj.cells X 43)).alloc (Obj.cells (PA Sb.Pt.zero none 0 0) 43)).alloc (Obj.cells #[.slice none 0 0] 64) := ⟨_, rfl⟩
  change Code.wp _ _ _ _ (((w.alloc (Obj.cells X 43)).alloc (Obj.cells (PA Sb.Pt.zero none 0 0) 43)).alloc (Obj.cells #[.slice none 0 0] 64))
  rw [← hW0] at B0 B1 B2 U0 ⊢
  clear hW0
  go_upto_region 3 with fail
  go_wp2_with fail
  go_loopg [15] l.length (fun gk i wr => ∃ (k : Nat) (A' : Option Addr) (c' : Nat) (ls : List TS), gk + k = l.length ∧ i = .int .i64 k ∧ Hid (ls.map TS.s = (Sb.sounds p.seed ((l.map TW.w).take k)).2) ∧ Hid (SOwn wr (w.heap.size + 3) A' k c' ls) ∧ Hid (PB wr w.heap.size { p with seed := (Sb.sounds p.seed ((l.map TW.w).take k)).1 } A n c) ∧ Hid (Blk wr (w.heap.size + 1) 43 (PA Sb.Pt.zero none 0 0)) ∧ Hid (Blk wr (w.heap.size + 1 + 1) 64 #[.slice A' k c']) ∧ Hid (Bel w wr))
  case atStart => exact ⟨0, none, 0, [], rfl, rfl, Lib.hid rfl, Lib.hid SOwn.nil, B0, B1, B2, U0⟩
  case round =>
    obtain ⟨k, A', c', ls, hgk, rfl, HL, HO, B0, B1, B2, U⟩ := hrel
    have hi0 : (0 : Int) ≤ (k : Int) := by omega
    have hbs := B2.out.lt
    by_cases hk : k < l.length
    rotate_left
    · obtain rfl : k = l.length := by omega
      have hi1 : (l.length : Int) ≤ (l.length : Int) := Int.le_refl _
      rw [List.take_of_length_le (by simp)] at HL B0
      go_upto_region 10 with fail
      obtain ⟨q, hq⟩ : ∃ q : Sb.Pt, q = { p with seed := (Sb.sounds p.seed (l.map TW.w)).1 } := ⟨_, rfl⟩
      rw [← hq] at B0
      have HQ := Lib.hid hq
      have V1 : Blk wr.drew (w.heap.size + 1) 43 (PL Sb.Pt.zero none 0 0).toArray := Blk.dr B1.out
      have VO : SOwn wr.drew (w.heap.size + 3) A' l.length c' ls := HO.out.drew
      have VU : Bel w wr.drew := Bel.drew U.out
      clear hq
      refine wp_region_held_drew (S := fun w' => Blk w' w.heap.size 43 (PL q A n c).toArray ∧ Blk w' (w.heap.size + 1 + 1) 64 #[.slice A' l.length c']) (by kernel_rfl) ⟨Blk.dr B0.out, Blk.dr B2.out⟩ (fun hHeld => ?_)
      refine tk1 (i := 0) (v := .agg (PA q A n c)) rfl (yif_load_part rfl 43 (.tmp 2) rfl w.heap.size 0 rfl 43 (PL q A n c) (fun w h => h.1) 48 _ Try.underlying43 info_port (Nat.le_refl 48) _ rfl rfl) hHeld ?_
      try simp only [List.getElem_toArray, List.getElem_cons_zero, List.getElem_cons_succ, Act.put, List.setIfInBounds_toArray, List.set_cons_zero, List.set_cons_succ]
      refine tk1 (i := 1) (v := .slice A' l.length c') rfl (Or.inl ⟨by rfl, fun w h => by have c2 := h.2.at 0 _ rfl; clear h; go_simp; try with_reducible rfl⟩) hHeld ?_
      try simp only [List.getElem_toArray, List.getElem_cons_zero, List.getElem_cons_succ, Act.put, List.setIfInBounds_toArray, List.set_cons_zero, List.set_cons_succ]
      refine wpAnyH_ready (rs := [2]) (by kernel_rfl) (by simp) ?_
      refine AllReadyH.cons (o := _) rfl (fun K hK => ?_) AllReadyH.nil
      refine step_store_part rfl 43 (.tmp 4) (.tmp 39) rfl (w.heap.size + 1) 0 rfl 43 _ V1 (PL q A n c) rfl info_port (Nat.le_refl 48) rfl (PL q A n c) rfl ?_
      intro WF BF OF
      refine hK.out _ _ ⟨OF.blk hHeld.1 (by omega), OF.blk hHeld.2 (by omega)⟩ (fun hHeld2 => ?_)
      clear hK K
      try simp only [List.getElem_toArray, List.getElem_cons_zero, List.getElem_cons_succ, Act.put, List.setIfInBounds_toArray, List.set_cons_zero, List.set_cons_succ]
      refine tk1 (i := 3) (v := .slice A' l.length c') rfl (Or.inl ⟨by rfl, fun w _ => by go_simp; try with_reducible rfl⟩) hHeld2 ?_
      try simp only [List.getElem_toArray, List.getElem_cons_zero, List.getElem_cons_succ, Act.put, List.setIfInBounds_toArray, List.set_cons_zero, List.set_cons_succ]
      refine wpAnyH_done (by kernel_rfl) ?_ _
      go_wp2_with fail
      refine bodyPost_ret (v := .tuple #[.agg (PA q A n c), .slice A' l.length c']) (res_ct Try.results35 rfl (PB.load BF) rfl) rfl ⟨A', c', ls, by rw [HQ.out], HL.out, VO.only OF (by omega), OF.bel VU (by omega)⟩
    have hi1 : (k : Int) < (l.length : Int) := by omega
    obtain ⟨a, ha⟩ : ∃ a, l[k]? = some a := ⟨_, List.getElem?_eq_getElem hk⟩
    obtain ⟨b, off, rfl, hbB, e0, e1, e2, e3, e4, e5⟩ := rowsW (HA.out.1.keep (fun p hp => U.out.cell hp)) ha
    have hpa := HP.out a (List.mem_of_getElem? ha)
    have hia := (HA.out.2 a (List.mem_of_getElem? ha)).keep (w' := wr) (fun p hp => U.out.cell hp)
    have hm : (l.map TW.w)[k]? = some a.w := by rw [List.getElem?_map, ha]; rfl
    have HM := Lib.hid hm
    have hsd := sounds_seed ((l.map TW.w).take k) p.seed HS0.out.1 HS0.out.2
    obtain ⟨⟨at0, ⟨sq0, ti0, mk0, ty0, pl0⟩⟩, S0, c0⟩ := a
    obtain ⟨t0, t1, tz, tl, tc⟩ := hpa
    simp only at e0 e1 e2 e3 e4 e5 t0 t1 tz tl tc hia HM
    have hsn : Hid (Sb.sounds p.seed ((l.map TW.w).take (k + 1)) = ((Sb.dec ty0 pl0 (Sb.sounds p.seed ((l.map TW.w).take k)).1).2, (Sb.sounds p.seed ((l.map TW.w).take k)).2 ++ [⟨at0, (Sb.dec ty0 pl0 (Sb.sounds p.seed ((l.map TW.w).take k)).1).1, []⟩])) := Lib.hid (by rw [Sb.take_snoc HM.out, Sb.sounds_snoc])
    generalize Sb.sounds p.seed ((l.map TW.w).take k) = R at *
    obtain ⟨R1, R2⟩ := R
    simp only at hsd hsn HL B0
    obtain ⟨d0, d1⟩ := hsd
    have k1 := Lib.hid fun (W : World) hW => sdecode_any ty0 S0 pl0 c0 R1 W hW tz tl t0 t1 d0 d1 tc
    have hds := Lib.hid (dec_seed ty0 pl0 R1 d0 d1)
    generalize Sb.dec ty0 pl0 R1 = D at *
    obtain ⟨D1, D2⟩ := D
    have IA := Lib.hid (hia.more (Nat.le_trans (Nat.le_refl _) U.out.size))
    clear ha hm hia tz tl tc t0 t1
    have BX := Lib.hid (Blk.new wr 123 #[.int .i64 at0, .int .i64 sq0, .int .i64 ti0, .bool mk0, .int .u8 ty0, .slice S0 pl0.length c0])
    obtain ⟨W1, hW1⟩ : ∃ W, W = wr.alloc (.cells #[.int .i64 at0, .int .i64 sq0, .int .i64 ti0, .bool mk0, .int .u8 ty0, .slice S0 pl0.length c0] 123) := ⟨_, rfl⟩
    have BB := Lib.hid (show Below wr.heap.size wr W1 by rw [hW1]; exact (Below.refl _ _).alloc (Nat.le_refl _) _)
    rw [← hW1] at BX
    go_upto_region 6 with fail
    rw [← hW1]
    clear hW1 e0 e1 e2 e3 e4 e5
    replace B0 := Lib.hid (B0.out.later BB.out)
    replace B1 := Lib.hid (B1.out.later BB.out)
    replace B2 := Lib.hid (B2.out.later BB.out)
    replace HO := Lib.hid (HO.out.below BB.out)
    replace IA := Lib.hid (IA.out.later BB.out)
    replace U := Lib.hid (U.out.later BB.out)
    obtain ⟨gx, hgx⟩ : ∃ g, g = wr.heap.size := ⟨_, rfl⟩
    rw [← hgx] at BX ⊢
    have hg3 : w.heap.size + 3 ≤ gx := by omega
    clear BB hgx
    have x4 := BX.out.at 4 _ rfl
    have x5 := BX.out.at 5 _ rfl
    have sd := B0.out.cell 45 _ rfl
    go_wp2_with fail
    refine (k1.out _ IA.out).mono ?_
    rintro e w2 ⟨A1, c1, rfl, hI, hb2⟩
    clear x4 x5 sd
    have hfar : Hid (0 < D1.length → ∀ b off, A1 = some ⟨b, off, none⟩ → some b ≠ ownB A' ∧ w.heap.size + 3 ≤ b) := Lib.hid fun h0 b off e => by
      have h1 := hI.2 h0 b off e
      have h2 := BX.out.lt
      refine ⟨fun he => ?_, by omega⟩
      have h3 := (HO.out.own.block b he.symm).2
      omega
    have HI := Lib.hid hI.1
    replace B0 := Lib.hid (B0.out.later hb2)
    replace B1 := Lib.hid (B1.out.later hb2)
    replace B2 := Lib.hid (B2.out.later hb2)
    replace BX := Lib.hid (BX.out.later hb2)
    replace HO := Lib.hid (HO.out.below hb2)
    replace U := Lib.hid (U.out.later hb2)
    clear hb2 hI IA
    have sd := B0.out.cell 45 _ rfl
    have sz := Blk.frozen B0.out 45
    go_upto_region 8 with fail
    obtain ⟨W3, hW3⟩ : ∃ W, W = w2.setCell ⟨w.heap.size, 45, none⟩ (.int .u32 D2) := ⟨_, rfl⟩
    rw [← hW3]
    have OV : OnlyB w.heap.size w2 W3 := by rw [hW3]; exact OnlyB.setCell _ _ _ _
    replace B0 := Lib.hid (show PB W3 w.heap.size { p with seed := D2 } A n c by rw [hW3]; exact B0.out.set 45 _ _ rfl)
    replace B1 := Lib.hid (OV.blk B1.out (by omega))
    replace B2 := Lib.hid (OV.blk B2.out (by omega))
    replace BX := Lib.hid (OV.blk BX.out (by omega))
    replace HO := Lib.hid (HO.out.only OV (by omega))
    replace U := Lib.hid (OV.bel U.out (Nat.le_refl _))
    have HI2 : Hid (IntsAt W3 W3.heap.size .i16 A1 D1) := Lib.hid fun h0 => by
      obtain ⟨b, off, e, hlt, hc⟩ := HI.out h0
      have := (hfar.out h0 b off e).2
      exact ⟨b, off, e, by rw [OV.2]; exact hlt, fun i hi => (OV.cell (show b ≠ w.heap.size by omega)).trans (hc i hi)⟩
    clear hW3 OV sd sz HI
    have x0 := BX.out.at 0 _ rfl
    have hbx := BX.out.lt
    go_wp2_with fail
    refine (add_any (w.heap.size + 3) (w.heap.size + 1 + 1) A' k c' ls at0 A1 D1 c1 _ B2.out HO.out (by omega) (by omega) (by omega) HI2.out hfar.out).mono ?_
    rintro e w4 ⟨rfl, A4, c4, B4, O4, K4⟩
    have hB2 := Lib.hid B4
    have hHO := Lib.hid O4
    replace B0 := Lib.hid (K4.blk B0.out (by omega) (by omega))
    replace B1 := Lib.hid (K4.blk B1.out (by omega) (by omega))
    replace U := Lib.hid (K4.bel U.out (by omega) (by omega))
    clear B4 O4 K4 x0 hbx B2 HO BX
    go_wp2_with fail
    go_roundg (gk - 1)
    case measure => omega
    case rel =>
      refine ⟨k + 1, A4, c4, ls ++ [⟨⟨at0, D1, []⟩, A1, c1⟩], by omega, by go_num, Lib.hid ?_, hHO, ?_, B1, hB2, U⟩
      · rw [hsn.out, List.map_append, HL.out]; rfl
      · rw [hsn.out]; exact B0
end Go.Proofs.Ytahbecinkciahaa
/- Layer 32: playWith and Play, at a time that is taken. -/
namespace Go.Proofs.Ytahbecinkciahaa
open Go.RowKit
set_option linter.unusedVariables false
set_option linter.unusedSimpArgs false
attribute [local go_sem ↓] run_min_plain run_max_plain
attribute [local go_sem] setCell_drewN alloc_drewN
theorem WtsIn.only {W W' : World} {lo hi g : Nat} {A : Option Addr} {l : List TW} (h : WtsIn W lo hi A l) (ho : OnlyB g W W') (hg : g < lo) : WtsIn W' lo hi A l := h.keep fun p hp _ => ho.cell (by omega)
theorem WtsIn.step {W W' : World} {lo g : Nat} {A : Option Addr} {l : List TW} (h : WtsIn W lo W.heap.size A l) (ho : OnlyB g W W') (hg : g < lo) : WtsIn W' lo W'.heap.size A l := by rw [ho.2]; exact h.only ho hg
theorem WtsIn.later {W W' : World} {lo : Nat} {A : Option Addr} {l : List TW} (h : WtsIn W lo W.heap.size A l) (hb : Below W.heap.size W W') : WtsIn W' lo W'.heap.size A l := (h.below hb (Nat.le_refl _)).more hb.size
/-- a packet in the queue that can be played -/
structure OkW (a : Jb.Wt) : Prop where
  t0 : 0 ≤ a.m.ty
  t1 : a.m.ty ≤ 255
  z : Within 0 255 a.m.pl
  len : a.m.pl.length ≤ 8000
theorem OkW.okP {a : TW} (h : OkW a.w) (hc : a.w.m.pl.length ≤ a.c) : OkP a := ⟨h.t0, h.t1, h.z, h.len, fun _ => hc⟩
theorem okP_all {l : List TW} {q : List Jb.Wt} (hl : l.map TW.w = q) (h : ∀ a ∈ q, OkW a) (hc : ∀ a ∈ l, a.w.m.pl.length ≤ a.c) : ∀ a ∈ l, OkP a := fun a ha => (h a.w (by rw [← hl]; exact List.mem_map_of_mem ha)).okP (hc a ha)
/-- what playWith leaves -/
def PlayR (p : Sb.Pt) (now v : Int) (w : World) (e : Ending) (w' : World) : Prop :=
  ∃ (A' : Option Addr) (n' c' : Nat) (l' : List TW) (SA : Option Addr) (sc m : Nat) (ls : List TS) (base : Nat), e = .returned (.tuple #[.agg (PA (Sb.run p now).1 A' n' c'), .int .u8 v, .slice SA m sc, .int .u8 0]) ∧ l'.map TW.w = (Sb.run p now).1.jt.q ∧ l'.length = n' ∧ n' ≤ c' ∧ c' ≤ maxLen ∧ WtsIn w' w.heap.size w'.heap.size A' l' ∧ ls.map TS.s = (Sb.run p now).2 ∧ w.heap.size ≤ base ∧ SOwn w' base SA m sc ls ∧ Below w.heap.size w w'
set_option maxRecDepth 100000 in
set_option maxHeartbeats 12800000 in
theorem playWith_ok (p : Sb.Pt) (hw : p.wf) (A : Option Addr) (l : List TW) (n c : Nat) (X : Array Value) (hX : X = PA p A n c) (w : World) (hq : l.map TW.w = p.jt.q) (hn : l.length = n) (hl : n ≤ 100000) (hcap : n ≤ c) (hcm : c ≤ maxLen) (hA : Wts w w.heap.size A l) (hK : ∀ a ∈ l, I64 a.w.m.sq) (now v : Int) (he : (Jb.run p.jt now).2.2 = 0) (hO : ∀ a ∈ (Jb.run p.jt now).2.1, OkW a) (hm : (Jb.run p.jt now).2.1.length ≤ 100000) : Calls Try.prog 29 #[.agg X, .int .i64 now, .int .u8 v] w (PlayR p now v w) := by
  have B0 := Lib.hid ((PB.new w X hX).push (.cells (PA Sb.Pt.zero none 0 0) 43))
  have B1 := Lib.hid (Blk.new1 w (.cells X 43) 43 (PA Sb.Pt.zero none 0 0))
  have U0 := Lib.hid (((Bel.refl w).push (.cells X 43)).push (.cells (PA Sb.Pt.zero none 0 0) 43))
  have HA := Lib.hid ((hA.push (.cells X 43)).push (.cells (PA Sb.Pt.zero none 0 0) 43))
  have k1 := Lib.hid fun (W : World) hW => jrun_stW p.jt A l n c now W hq hn hl hcap hcm hW hK
  have HP : Hid (PlayR p now v w = fun e w' => ∃ (A' : Option Addr) (n' c' : Nat) (l' : List TW) (SA : Option Addr) (sc m : Nat) (ls : List TS) (base : Nat), e = .returned (.tuple #[.agg (PA { p with jt := (Jb.run p.jt now).1, seed := (Sb.sounds p.seed (Jb.run p.jt now).2.1).1 } A' n' c'), .int .u8 v, .slice SA m sc, .int .u8 0]) ∧ l'.map TW.w = (Jb.run p.jt now).1.q ∧ l'.length = n' ∧ n' ≤ c' ∧ c' ≤ maxLen ∧ WtsIn w' w.heap.size w'.heap.size A' l' ∧ ls.map TS.s = (Sb.sounds p.seed (Jb.run p.jt now).2.1).2 ∧ w.heap.size ≤ base ∧ SOwn w' base SA m sc ls ∧ Below w.heap.size w w') := Lib.hid rfl
  rw [HP.out]
  clear HP
  unfold JRunW at k1
  unfold JV at k1
  have HO := Lib.hid hO
  obtain ⟨R, hR⟩ : ∃ R, R = Jb.run p.jt now := ⟨_, rfl⟩
  rw [← hR] at k1 HO he hm ⊢
  clear hR
  obtain ⟨R1, R2, R3⟩ := R
  obtain rfl : R3 = 0 := he
  have hs0 := hw.seed.1
  have hs1 := hw.seed.2
  clear hX hA hK hq hO
  go_enter Try.func29, Try.ntmps29
  go_upto_region 1 with fail
  change Code.wp _ _ _ _ ((w.alloc (Obj.cells X 43)).alloc (Obj.cells (PA Sb.Pt.zero none 0 0) 43))
  obtain ⟨W, hW⟩ : ∃ W, W = (w.alloc (Obj.cells X 43)).alloc (Obj.cells (PA Sb.Pt.zero none 0 0) 43) := ⟨_, rfl⟩
  rw [← hW] at B0 B1 U0 HA ⊢
  clear hW
  obtain ⟨x14, x15, x16, x17, x18, x19, x20, x21, x22, x23, x24, x25, x26, x27⟩ := B0.out.jt
  have hL := B1.out.lt
  go_wp2_with fail
  refine (k1.out _ HA.out).mono ?_
  rintro e w1 ⟨A1, c1, l1, A2, c2, l2, rfl, hl1, hl2, hW1, hW2, hc2, hm2, hb1, hc1, hm1⟩
  clear x14 x15 x16 x17 x18 x19 x20 x21 x22 x23 x24 x25 x26 x27
  replace U0 := Lib.hid (U0.out.later hb1)
  replace B0 := Lib.hid (B0.out.later hb1)
  replace B1 := Lib.hid (B1.out.later hb1)
  have HL1 := Lib.hid hl1
  have HL2 := Lib.hid hl2
  have HOK := Lib.hid (okP_all hl1 HO.out hW1.cap)
  have hlen1 : l1.length ≤ 100000 := by have := congrArg List.length hl1; simp at this hm; omega
  have BJ := Lib.hid (Blk.new w1 35 (JW R1 A2 l2.length c2).toArray)
  obtain ⟨g1, hg1⟩ : ∃ g, g = w1.heap.size := ⟨_, rfl⟩
  have hs1' := U0.out.size
  have hb1lt := B1.out.lt
  obtain ⟨W1, hWW⟩ : ∃ W, W = w1.alloc (.cells (JW R1 A2 l2.length c2).toArray 35) := ⟨_, rfl⟩
  have BB := Lib.hid (show Below w1.heap.size w1 W1 by rw [hWW]; exact (Below.refl _ _).alloc (Nat.le_refl _) _)
  have hg1' : Hid (g1 = w1.heap.size) := Lib.hid hg1
  rw [← hg1, ← hWW] at BJ
  go_upto_region 4 with fail
  rw [← hg1]
  change Code.wp _ _ _ _ (w1.alloc (Obj.cells (JW R1 A2 l2.length c2).toArray 35))
  rw [← hWW]
  replace U0 := Lib.hid (U0.out.later BB.out)
  replace B0 := Lib.hid (B0.out.later BB.out)
  replace B1 := Lib.hid (B1.out.later BB.out)
  have HW1 := Lib.hid (hW1.later BB.out)
  have HW2 := Lib.hid (hW2.later BB.out)
  clear hb1 hl1 hl2 hWW hg1 hW1 hW2 BB HA
  have hgl := Blk.lt B0.out
  go_upto_region 5 with (first | (refine wpList_load_part rfl 35 (.tmp 10) rfl (g1) 0 rfl 35 (JW R1 A2 l2.length c2) BJ.out 14 _ Try.underlying35 info_jit (show 0 + 14 ≤ 14 by decide) ((JW R1 A2 l2.length c2).toArray) (by rfl) rfl ?_) | (refine wpList_store_part rfl 35 (.tmp 27) (.tmp 26) rfl (w.heap.size) 14 rfl 43 (PL p A n c) B0.out (JW R1 A2 l2.length c2) rfl info_jit (show 14 + 14 ≤ 48 by decide) rfl (PL { p with jt := R1 } A2 l2.length c2) rfl ?_; intro WF BF OF))
  obtain ⟨q1, hq1⟩ : ∃ q : Sb.Pt, q = { p with jt := R1 } := ⟨_, rfl⟩
  rw [← hq1] at BF
  have hW1 := Lib.hid (HW1.out.step OF (by omega))
  have hW2 := Lib.hid (HW2.out.step OF (by omega))
  replace U0 := Lib.hid (OF.bel U0.out (Nat.le_refl _))
  replace B1 := Lib.hid (OF.blk B1.out (by omega))
  replace B0 := Lib.hid BF
  have k2 := Lib.hid fun (W : World) hW => sounds_any q1 (by rw [hq1]; exact hs0) (by rw [hq1]; exact hs1) A2 l2.length c2 (PA q1 A2 l2.length c2) rfl A1 l1 l1.length c1 W rfl hlen1 hW HOK.out
  unfold SoundsR at k2
  rw [HL1.out] at k2
  obtain ⟨q2, hq2⟩ : ∃ q : Sb.Pt, q = { q1 with seed := (Sb.sounds q1.seed R2).1 } := ⟨_, rfl⟩
  rw [← hq2] at k2
  have HQ1 := Lib.hid hq1
  have HQ2 := Lib.hid hq2
  clear hq1 hq2 BF OF HW1 HW2 BJ hs0 hs1
  go_wp2_with (first | (refine wpList_load_part rfl 43 (.tmp 3) rfl (w.heap.size) 0 rfl 43 (PL q1 A2 l2.length c2) B0.out 48 _ Try.underlying43 info_port (show 0 + 48 ≤ 48 by decide) (PA q1 A2 l2.length c2) (by rfl) rfl ?_) | fail)
  refine (k2.out _ hW1.out.rows).mono ?_
  rintro e w3 ⟨SA, sc, ls, rfl, hls, hso, hb3⟩
  have hbase : w.heap.size ≤ WF.heap.size := U0.out.size
  replace U0 := Lib.hid (U0.out.later hb3)
  have B03 := Lib.hid (PB.later B0.out hb3)
  have B13 := Lib.hid (B1.out.later hb3)
  replace hW2 := Lib.hid (hW2.out.later hb3)
  have HLS := Lib.hid hls
  have HSO := Lib.hid hso
  have hsz3 := hb3.size
  clear hls hso hb3 hW1 B0 B1
  go_upto_region 6 with (first | (refine wpList_store_part rfl 43 (.tmp 3) (.tmp 32) rfl (w.heap.size) 0 rfl 43 (PL q1 A2 l2.length c2) B03.out (PL q2 A2 l2.length c2) rfl info_port (show 0 + 48 ≤ 48 by decide) rfl (PL q2 A2 l2.length c2) rfl ?_; intro WG BG OG) | fail)
  have hW3 := Lib.hid (hW2.out.step OG (by omega))
  have hsb : w.heap.size < WF.heap.size + 3 := by omega
  replace U0 := Lib.hid (OG.bel U0.out (Nat.le_refl _))
  replace B13 := Lib.hid (OG.blk B13.out (by omega))
  replace HSO := Lib.hid (HSO.out.only OG hsb)
  have HBG := Lib.hid BG
  clear BG OG hW2 B03
  have hg1l : w.heap.size + 1 < WF.heap.size + 3 := by have := hg1'.out; omega
  go_wp2_with (first | (refine wpList_load_part rfl 43 (.tmp 3) rfl (w.heap.size) 0 rfl 43 (PL q2 A2 l2.length c2) HBG.out 48 _ Try.underlying43 info_port (show 0 + 48 ≤ 48 by decide) (PA q2 A2 l2.length c2) (by rfl) rfl ?_) | (refine wpList_store_part rfl 43 (.tmp 6) (.tmp 34) rfl (w.heap.size + 1) 0 rfl 43 (PL Sb.Pt.zero none 0 0) B13.out (PL q2 A2 l2.length c2) rfl info_port (show 0 + 48 ≤ 48 by decide) rfl (PL q2 A2 l2.length c2) rfl ?_; intro WH BH OH) | fail)
  have hW4 := (hW3.out.step OH hL).less (lo' := w.heap.size) (by omega)
  refine bodyPost_ret (v := .tuple #[.agg (PA q2 A2 l2.length c2), .int .u8 v, .slice SA l1.length sc, .int .u8 0]) (res_cttt Try.results29 rfl (PB.load BH) rfl rfl rfl) rfl ⟨A2, l2.length, c2, l2, SA, sc, l1.length, ls, WF.heap.size + 3, ?_, HL2.out, rfl, hc2, hm2, hW4, ?_, by omega, HSO.out.only OH hg1l, OH.bel U0.out (by omega)⟩
  · rw [HQ2.out, HQ1.out]
  · rw [HLS.out, HQ1.out]
end Go.Proofs.Ytahbecinkciahaa
/- Layer 32: Play, at a time that is taken. -/
namespace Go.Proofs.Ytahbecinkciahaa
open Go.RowKit
set_option linter.unusedVariables false
set_option linter.unusedSimpArgs false
attribute [local go_sem ↓] run_min_plain run_max_plain
attribute [local go_sem] setCell_drewN alloc_drewN
theorem chkT_zero {p : Sb.Pt} {now : Int} (h : Sb.chkT p now = 0) : p.valid = true ∧ now ≤ 281474976710656 ∧ p.jt.now ≤ now := by
  unfold Sb.chkT at h
  split at h
  · cases h
  · rename_i h1
    split at h
    · cases h
    · rename_i h2
      refine ⟨?_, by omega, by omega⟩
      cases hv : p.valid
      · exact absurd (Or.inl hv) h1
      · rfl
theorem valid_jt {p : Sb.Pt} (h : p.valid = true) : p.jt.ok := by
  unfold Sb.Pt.valid at h
  simp only [Bool.and_eq_true] at h
  have h3 : Jb.valid p.jt = true := h.1.1.2
  unfold Jb.valid at h3
  exact of_decide_eq_true h3
theorem chkT_run {p : Sb.Pt} {now : Int} (h : Sb.chkT p now = 0) : (Jb.run p.jt now).2.2 = 0 ∧ (Jb.run p.jt now).2.1 = Jb.due now p.jt.q := by
  obtain ⟨h1, h2, h3⟩ := chkT_zero h
  have h4 := valid_jt h1
  have h5 : Jb.chk p.jt now true = 0 := by
    unfold Jb.chk
    rw [if_neg (fun hh => by rcases hh with hh | hh | hh; exact hh h4; omega; cases hh), if_neg (by omega)]
  unfold Jb.run
  rw [if_pos h5]
  exact ⟨rfl, rfl⟩
theorem due_okW {now : Int} {q : List Jb.Wt} (h : ∀ a ∈ q, OkW a) : ∀ a ∈ Jb.due now q, OkW a := fun a ha => h a ((List.takeWhile_sublist _).subset ha)
theorem sb_due_len (now : Int) (q : List Jb.Wt) : (Jb.due now q).length ≤ q.length := (List.takeWhile_sublist _).length_le
/-- what Play leaves -/
def PlayV (p : Sb.Pt) (now : Int) (w : World) (e : Ending) (w' : World) : Prop :=
  ∃ (A' : Option Addr) (n' c' : Nat) (l' : List TW) (SA : Option Addr) (sc m : Nat) (ls : List TS) (base : Nat), e = .returned (.tuple #[.agg (PA (Sb.run p now).1 A' n' c'), .slice SA m sc, .int .u8 0]) ∧ l'.map TW.w = (Sb.run p now).1.jt.q ∧ l'.length = n' ∧ n' ≤ c' ∧ c' ≤ maxLen ∧ WtsIn w' w.heap.size w'.heap.size A' l' ∧ ls.map TS.s = (Sb.run p now).2 ∧ w.heap.size ≤ base ∧ SOwn w' base SA m sc ls ∧ Below w.heap.size w w'
set_option maxRecDepth 100000 in
set_option maxHeartbeats 12800000 in
theorem Play_ok (p : Sb.Pt) (hw : p.wf) (A : Option Addr) (l : List TW) (n c : Nat) (X : Array Value) (hX : X = PA p A n c) (w : World) (hq : l.map TW.w = p.jt.q) (hn : l.length = n) (hl : n ≤ 100000) (hcap : n ≤ c) (hcm : c ≤ maxLen) (hA : Wts w w.heap.size A l) (hK : ∀ a ∈ l, I64 a.w.m.sq) (now : Int) (hc : Sb.chkT p now = 0) (hO : ∀ a ∈ p.jt.q, OkW a) : Calls Try.prog 13 #[.agg X, .int .i64 now] w (PlayV p now w) := by
  have B0 := Lib.hid ((PB.new w X hX).push (.cells (PA Sb.Pt.zero none 0 0) 43))
  have B1 := Lib.hid (Blk.new1 w (.cells X 43) 43 (PA Sb.Pt.zero none 0 0))
  have U0 := Lib.hid (((Bel.refl w).push (.cells X 43)).push (.cells (PA Sb.Pt.zero none 0 0) 43))
  have HA := Lib.hid ((hA.push (.cells X 43)).push (.cells (PA Sb.Pt.zero none 0 0) 43))
  obtain ⟨r1, r2⟩ := chkT_run hc
  have hm : (Jb.run p.jt now).2.1.length ≤ 100000 := by
    rw [r2]
    have h1 := sb_due_len now p.jt.q
    have h2 := congrArg List.length hq
    simp at h2
    omega
  have k1 := Lib.hid fun (W : World) hW => checkTime_any p hw A l n c (PA p A n c) rfl W hq hn hl hW hK now
  rw [hc] at k1
  have k2 := Lib.hid fun (W : World) hW => playWith_ok p hw A l n c (PA p A n c) rfl W hq hn hl hcap hcm hW hK now 0 r1 (by rw [r2]; exact due_okW hO) hm
  unfold PlayR at k2
  unfold PlayV
  generalize Sb.run p now = R at *
  obtain ⟨q, R2⟩ := R
  clear hX hA hK hq hc hO r1 r2 hm hw
  go_enter Try.func13, Try.ntmps13
  go_upto_region 1 with fail
  change Code.wp _ _ _ _ ((w.alloc (Obj.cells X 43)).alloc (Obj.cells (PA Sb.Pt.zero none 0 0) 43))
  obtain ⟨W, hW⟩ : ∃ W, W = (w.alloc (Obj.cells X 43)).alloc (Obj.cells (PA Sb.Pt.zero none 0 0) 43) := ⟨_, rfl⟩
  rw [← hW] at B0 B1 U0 HA ⊢
  clear hW
  have hL := B1.out.lt
  go_wp2_with (first | (refine wpList_load_part rfl 43 (.tmp 2) rfl (w.heap.size) 0 rfl 43 (PL p A n c) B0.out 48 _ Try.underlying43 info_port (show 0 + 48 ≤ 48 by decide) (PA p A n c) (by rfl) rfl ?_) | fail)
  refine (k1.out _ HA.out).mono ?_
  rintro e w1 ⟨rfl, hb1⟩
  replace U0 := Lib.hid (U0.out.later hb1)
  replace B0 := Lib.hid (B0.out.later hb1)
  replace B1 := Lib.hid (B1.out.later hb1)
  replace HA := Lib.hid (HA.out.later hb1)
  have hL1 := B1.out.lt
  clear hb1
  go_wp2_with (first | (refine wpList_load_part rfl 43 (.tmp 2) rfl (w.heap.size) 0 rfl 43 (PL p A n c) B0.out 48 _ Try.underlying43 info_port (show 0 + 48 ≤ 48 by decide) (PA p A n c) (by rfl) rfl ?_) | fail)
  refine (k2.out _ HA.out).mono ?_
  rintro e w2 ⟨A2, n2, c2, l2, SA, sc, m, ls, base, rfl, e1, e2, e3, e4, e5, e6, e7, e8, hb2⟩
  replace U0 := Lib.hid (U0.out.later hb2)
  replace B0 := Lib.hid (B0.out.later hb2)
  replace B1 := Lib.hid (B1.out.later hb2)
  have hus := U0.out.size
  have hs1 := hb2.size
  have HE1 := Lib.hid e1
  have HE5 := Lib.hid e5
  have HE6 := Lib.hid e6
  have HE8 := Lib.hid e8
  clear hb2 HA e1 e5 e6 e8
  subst e2
  go_upto_region 5 with (first | (refine wpList_store_part rfl 43 (.tmp 2) (.tmp 22) rfl (w.heap.size) 0 rfl 43 (PL p A n c) B0.out (PL q A2 l2.length c2) rfl info_port (show 0 + 48 ≤ 48 by decide) rfl (PL q A2 l2.length c2) rfl ?_; intro WG BG OG) | fail)
  replace U0 := Lib.hid (OG.bel U0.out (Nat.le_refl _))
  replace B1 := Lib.hid (OG.blk B1.out (by omega))
  replace HE5 := Lib.hid (HE5.out.step OG (by omega))
  replace HE8 := Lib.hid (HE8.out.only OG (by omega))
  have HBG := Lib.hid BG
  clear BG OG B0
  go_wp2_with (first | (refine wpList_load_part rfl 43 (.tmp 2) rfl (w.heap.size) 0 rfl 43 (PL q A2 l2.length c2) HBG.out 48 _ Try.underlying43 info_port (show 0 + 48 ≤ 48 by decide) (PA q A2 l2.length c2) (by rfl) rfl ?_) | (refine wpList_store_part rfl 43 (.tmp 4) (.tmp 26) rfl (w.heap.size + 1) 0 rfl 43 (PL Sb.Pt.zero none 0 0) B1.out (PL q A2 l2.length c2) rfl info_port (show 0 + 48 ≤ 48 by decide) rfl (PL q A2 l2.length c2) rfl ?_; intro WH BH OH) | fail)
  refine bodyPost_ret (v := .tuple #[.agg (PA q A2 l2.length c2), .slice SA m sc, .int .u8 0]) (res_ctt Try.results13 rfl (PB.load BH) rfl rfl) rfl ⟨A2, l2.length, c2, l2, SA, sc, m, ls, base, rfl, HE1.out, rfl, e3, e4, (HE5.out.step OH hL1).less (by omega), HE6.out, by omega, HE8.out.only OH (by omega), OH.bel U0.out (by omega)⟩
end Go.Proofs.Ytahbecinkciahaa
/- Layer 32: a call of Receive: what is known of its arguments, and of the memory while it runs. -/
namespace Go.Proofs.Ytahbecinkciahaa
open Go.RowKit
set_option linter.unusedVariables false
set_option linter.unusedSimpArgs false
attribute [local go_sem ↓] run_min_plain run_max_plain
attribute [local go_sem] setCell_drewN alloc_drewN
/-- a body from region i on -/
def fromReg (i : Nat) : Code → Option Code
  | .seq (.region j ops d) b => if i = j then some (.seq (.region j ops d) b) else fromReg i b
  | .seq (.seq (.region j ops d) x) b => if i = j then some (.seq (.seq (.region j ops d) x) b) else fromReg i b
  | .seq a b => fromReg i b
  | _ => none
/-- a body's rest, at its first region -/
def firstWp (P : Program) : Code → (Exit → Act → World → Prop) → Act → World → Prop
  | .seq x y, Q => firstWp P x (Exit.then (y.wp P Q) Q)
  | c, Q => c.wp P Q
theorem first_r {P : Program} {i : Nat} {o : Array Oper} {d : Bool} {y : Code} {Q : Exit → Act → World → Prop} {a : Act} {w : World} (h : ∀ K : Act → World → Prop, (∀ a w, y.wp P Q a w → K a w) → (Code.region i o d).wp P (Exit.then K Q) a w) : firstWp P (.seq (.region i o d) y) Q a w := h _ fun _ _ h => h
theorem first_c {P : Program} {i : Nat} {o : Array Oper} {d : Bool} {x y : Code} {Q : Exit → Act → World → Prop} {a : Act} {w : World} (h : ∀ K : Act → World → Prop, (∀ a w, y.wp P Q a w → K a w) → ∀ L : Act → World → Prop, (∀ a w, x.wp P (Exit.then K Q) a w → L a w) → (Code.region i o d).wp P (Exit.then L (Exit.then K Q)) a w) : firstWp P (.seq (.seq (.region i o d) x) y) Q a w := h _ (fun _ _ h => h) _ fun _ _ h => h
theorem first1 {P : Program} {x y : Code} {Q : Exit → Act → World → Prop} {K : Act → World → Prop} {a : Act} {w : World} (hk : ∀ a w, y.wp P Q a w → K a w) (h : x.wp P (Exit.then (y.wp P Q) Q) a w) : x.wp P (Exit.then K Q) a w :=
  Code.wp_mono (fun e a w q => by cases e <;> first | exact hk _ _ q | exact q) h
theorem first2 {P : Program} {x1 x2 y : Code} {Q : Exit → Act → World → Prop} {K1 K2 : Act → World → Prop} {a : Act} {w : World} (hk1 : ∀ a w, x2.wp P (Exit.then K2 Q) a w → K1 a w) (hk2 : ∀ a w, y.wp P Q a w → K2 a w)
    (h : x1.wp P (Exit.then (x2.wp P (Exit.then (y.wp P Q) Q)) (Exit.then (y.wp P Q) Q)) a w) : x1.wp P (Exit.then K1 (Exit.then K2 Q)) a w :=
  Code.wp_mono (fun e a w q => by
    cases e <;> first
      | exact hk1 _ _ (Code.wp_mono (fun e a w q => by cases e <;> first | exact hk2 _ _ q | exact q) q)
      | exact q) h
/-- a packet's value -/
structure Rx where
  mrk : Bool
  ty : Int
  sq : Int
  ti : Int
  src : Int
  CA : Option Addr
  cn : Nat
  cc : Nat
  ex : Bool
  pr : Int
  EA : Option Addr
  en : Nat
  ec : Nat
  B : Option Addr
  pl : List Int
  pc : Nat
  pad : Int
def Rx.row (x : Rx) : Array Value := #[.bool x.mrk, .int .u8 x.ty, .int .u16 x.sq, .int .u32 x.ti, .int .u32 x.src, .slice x.CA x.cn x.cc, .bool x.ex, .int .u16 x.pr, .slice x.EA x.en x.ec, .slice x.B x.pl.length x.pc, .int .i64 x.pad]
def Rx.arr (x : Rx) : Sb.Arr := ⟨x.mrk, x.ty, x.sq, x.ti, x.pl⟩
/-- the arguments -/
structure RC (w : World) (p : Sb.Pt) (A : Option Addr) (l : List TW) (n c : Nat) (x : Rx) (now : Int) : Prop where
  q : l.map TW.w = p.jt.q
  len : l.length = n
  n5 : n ≤ 100000
  cap : n ≤ c
  cm : c ≤ maxLen
  av : Wts w w.heap.size A l
  sq : ∀ a ∈ l, I64 a.w.m.sq
  ok : ∀ a ∈ p.jt.q, OkW a
  s0 : 0 ≤ p.seed
  s1 : p.seed ≤ 4294967295
  ty0 : 0 ≤ x.ty
  ty1 : x.ty ≤ 255
  q0 : 0 ≤ x.sq
  q1 : x.sq ≤ 65535
  t0 : 0 ≤ x.ti
  t1 : x.ti ≤ 4294967295
  h15 : x.pl.length ≤ 1500
  pl : IntsAt w w.heap.size .u8 x.B x.pl
  n0 : -281474976710656 ≤ now
  n1 : now ≤ 281474976710656
theorem RC.with {w : World} {p p' : Sb.Pt} {A : Option Addr} {l : List TW} {n c : Nat} {x : Rx} {now : Int} (h : RC w p A l n c x now) (hj : p'.jt = p.jt) (hs : p'.seed = p.seed) : RC w p' A l n c x now :=
  ⟨by rw [hj]; exact h.q, h.len, h.n5, h.cap, h.cm, h.av, h.sq, by rw [hj]; exact h.ok, by rw [hs]; exact h.s0, by rw [hs]; exact h.s1, h.ty0, h.ty1, h.q0, h.q1, h.t0, h.t1, h.h15, h.pl, h.n0, h.n1⟩
/-- the boxes, while the call runs: the port, the packet, the result -/
structure RS (w W : World) (p : Sb.Pt) (A : Option Addr) (n c : Nat) (x : Rx) : Prop where
  b0 : PB W w.heap.size p A n c
  b1 : Blk W (w.heap.size + 1) 57 x.row
  b2 : Blk W (w.heap.size + 1 + 1) 43 (PA Sb.Pt.zero none 0 0)
  u : Bel w W
section
variable {w W W' : World} {p p' : Sb.Pt} {A A' : Option Addr} {n n' c c' : Nat} {x : Rx}
theorem RS.later (h : RS w W p A n c x) (hb : Below W.heap.size W W') : RS w W' p A n c x := ⟨h.b0.later hb, h.b1.later hb, h.b2.later hb, h.u.later hb⟩
theorem RS.push (h : RS w W p A n c x) (o : Obj) : RS w (W.alloc o) p A n c x := h.later ((Below.refl _ _).alloc (Nat.le_refl _) _)
/-- the port is stored -/
theorem RS.over (h : RS w W p A n c x) (ho : OnlyB w.heap.size W W') (hb : PB W' w.heap.size p' A' n' c') : RS w W' p' A' n' c' x := ⟨hb, ho.blk h.b1 (by omega), ho.blk h.b2 (by omega), ho.bel h.u (Nat.le_refl _)⟩
theorem RS.c0 (h : RS w W p A n c x) : W.cell? ⟨w.heap.size + 1, 0, none⟩ = some (.bool x.mrk) := h.b1.at 0 _ rfl
theorem RS.c1 (h : RS w W p A n c x) : W.cell? ⟨w.heap.size + 1, 1, none⟩ = some (.int .u8 x.ty) := h.b1.at 1 _ rfl
theorem RS.c2 (h : RS w W p A n c x) : W.cell? ⟨w.heap.size + 1, 2, none⟩ = some (.int .u16 x.sq) := h.b1.at 2 _ rfl
theorem RS.c3 (h : RS w W p A n c x) : W.cell? ⟨w.heap.size + 1, 3, none⟩ = some (.int .u32 x.ti) := h.b1.at 3 _ rfl
theorem RS.c9 (h : RS w W p A n c x) : W.cell? ⟨w.heap.size + 1, 9, none⟩ = some (.slice x.B x.pl.length x.pc) := h.b1.at 9 _ rfl
theorem RS.set (h : RS w W p A n c x) (i : Nat) (v : Value) (hp : (PL p A n c).set i v = PL p' A n c) : RS w (W.setCell ⟨w.heap.size, i, none⟩ v) p' A n c x := h.over (OnlyB.setCell _ _ _ _) (h.b0.set i v p' hp)
end
/-- what Receive leaves -/
def RecvR (R : Sb.Pt × Int × List Sb.Sd) (w : World) (e : Ending) (w' : World) : Prop :=
  ∃ (A' : Option Addr) (n' c' : Nat) (l' : List TW) (SA : Option Addr) (sc m : Nat) (ls : List TS) (base : Nat), e = .returned (.tuple #[.agg (PA R.1 A' n' c'), .int .u8 R.2.1, .slice SA m sc, .int .u8 0]) ∧ l'.map TW.w = R.1.jt.q ∧ l'.length = n' ∧ n' ≤ c' ∧ c' ≤ maxLen ∧ WtsIn w' w.heap.size w'.heap.size A' l' ∧ ls.map TS.s = R.2.2 ∧ w.heap.size ≤ base ∧ SOwn w' base SA m sc ls ∧ Below w.heap.size w w'
set_option maxRecDepth 100000 in
set_option maxHeartbeats 12800000 in
def FrA (g : Nat) (now : Int) (a : Act) : Prop := ∃ s : Nat → Value, a = ⟨#[s 0, .int .i64 now, s 2, .pointer (some ⟨g, 0, none⟩), s 4, .pointer (some ⟨g + 1, 0, none⟩), .pointer (some ⟨g + 1 + 1, 0, none⟩), s 7, s 8, s 9, s 10, s 11, s 12, s 13, s 14, s 15, s 16, s 17, s 18, s 19, s 20, s 21, s 22, s 23, s 24, s 25, s 26, s 27, s 28, s 29, s 30, s 31, s 32, s 33, s 34, s 35, s 36, s 37, s 38, s 39, s 40, s 41, s 42, s 43, s 44, s 45, s 46, s 47, s 48, s 49, s 50, s 51, s 52, s 53, s 54, s 55, s 56, s 57, s 58, s 59, s 60, s 61, s 62, s 63, s 64, s 65, s 66, s 67, s 68, s 69, s 70, s 71, s 72, s 73, s 74, s 75, s 76, s 77, s 78, s 79, s 80, s 81, s 82, s 83, s 84, s 85, s 86, s 87, s 88, s 89, s 90, s 91, s 92, s 93, s 94, s 95, s 96, s 97, s 98, s 99, s 100, s 101, s 102, s 103, s 104, s 105, s 106, s 107, s 108, s 109, s 110, s 111, s 112, s 113, s 114, s 115, s 116, s 117, s 118, s 119, s 120, s 121, s 122, s 123, s 124, s 125, s 126, s 127, s 128, s 129, s 130, s 131, s 132, s 133, s 134, s 135, s 136, s 137, s 138, s 139, s 140, s 141, s 142, s 143, s 144, s 145, s 146, s 147, s 148, s 149, s 150, s 151, s 152, s 153, s 154, s 155, s 156, s 157, s 158, s 159, s 160, s 161, s 162, s 163], []⟩
set_option maxRecDepth 100000 in
set_option maxHeartbeats 12800000 in
theorem FrA.mk {g : Nat} {now : Int} {s0 s2 s4 s7 s8 s9 s10 s11 s12 s13 s14 s15 s16 s17 s18 s19 s20 s21 s22 s23 s24 s25 s26 s27 s28 s29 s30 s31 s32 s33 s34 s35 s36 s37 s38 s39 s40 s41 s42 s43 s44 s45 s46 s47 s48 s49 s50 s51 s52 s53 s54 s55 s56 s57 s58 s59 s60 s61 s62 s63 s64 s65 s66 s67 s68 s69 s70 s71 s72 s73 s74 s75 s76 s77 s78 s79 s80 s81 s82 s83 s84 s85 s86 s87 s88 s89 s90 s91 s92 s93 s94 s95 s96 s97 s98 s99 s100 s101 s102 s103 s104 s105 s106 s107 s108 s109 s110 s111 s112 s113 s114 s115 s116 s117 s118 s119 s120 s121 s122 s123 s124 s125 s126 s127 s128 s129 s130 s131 s132 s133 s134 s135 s136 s137 s138 s139 s140 s141 s142 s143 s144 s145 s146 s147 s148 s149 s150 s151 s152 s153 s154 s155 s156 s157 s158 s159 s160 s161 s162 s163 : Value} : FrA g now ⟨#[s0, .int .i64 now, s2, .pointer (some ⟨g, 0, none⟩), s4, .pointer (some ⟨g + 1, 0, none⟩), .pointer (some ⟨g + 1 + 1, 0, none⟩), s7, s8, s9, s10, s11, s12, s13, s14, s15, s16, s17, s18, s19, s20, s21, s22, s23, s24, s25, s26, s27, s28, s29, s30, s31, s32, s33, s34, s35, s36, s37, s38, s39, s40, s41, s42, s43, s44, s45, s46, s47, s48, s49, s50, s51, s52, s53, s54, s55, s56, s57, s58, s59, s60, s61, s62, s63, s64, s65, s66, s67, s68, s69, s70, s71, s72, s73, s74, s75, s76, s77, s78, s79, s80, s81, s82, s83, s84, s85, s86, s87, s88, s89, s90, s91, s92, s93, s94, s95, s96, s97, s98, s99, s100, s101, s102, s103, s104, s105, s106, s107, s108, s109, s110, s111, s112, s113, s114, s115, s116, s117, s118, s119, s120, s121, s122, s123, s124, s125, s126, s127, s128, s129, s130, s131, s132, s133, s134, s135, s136, s137, s138, s139, s140, s141, s142, s143, s144, s145, s146, s147, s148, s149, s150, s151, s152, s153, s154, s155, s156, s157, s158, s159, s160, s161, s162, s163], []⟩ := ⟨fun k => [s0, undef, s2, undef, s4, undef, undef, s7, s8, s9, s10, s11, s12, s13, s14, s15, s16, s17, s18, s19, s20, s21, s22, s23, s24, s25, s26, s27, s28, s29, s30, s31, s32, s33, s34, s35, s36, s37, s38, s39, s40, s41, s42, s43, s44, s45, s46, s47, s48, s49, s50, s51, s52, s53, s54, s55, s56, s57, s58, s59, s60, s61, s62, s63, s64, s65, s66, s67, s68, s69, s70, s71, s72, s73, s74, s75, s76, s77, s78, s79, s80, s81, s82, s83, s84, s85, s86, s87, s88, s89, s90, s91, s92, s93, s94, s95, s96, s97, s98, s99, s100, s101, s102, s103, s104, s105, s106, s107, s108, s109, s110, s111, s112, s113, s114, s115, s116, s117, s118, s119, s120, s121, s122, s123, s124, s125, s126, s127, s128, s129, s130, s131, s132, s133, s134, s135, s136, s137, s138, s139, s140, s141, s142, s143, s144, s145, s146, s147, s148, s149, s150, s151, s152, s153, s154, s155, s156, s157, s158, s159, s160, s161, s162, s163].getD k undef, rfl⟩
set_option maxRecDepth 100000 in
set_option maxHeartbeats 12800000 in
def FrB (g : Nat) (now : Int) (gt : Nat) (kn : Bool) (a : Act) : Prop := ∃ s : Nat → Value, a = ⟨#[s 0, .int .i64 now, s 2, .pointer (some ⟨g, 0, none⟩), s 4, .pointer (some ⟨g + 1, 0, none⟩), .pointer (some ⟨g + 1 + 1, 0, none⟩), s 7, s 8, s 9, s 10, .pointer (some ⟨gt, 0, none⟩), .bool kn, s 13, s 14, s 15, s 16, s 17, s 18, s 19, s 20, s 21, s 22, s 23, s 24, s 25, s 26, s 27, s 28, s 29, s 30, s 31, s 32, s 33, s 34, s 35, s 36, s 37, s 38, s 39, s 40, s 41, s 42, s 43, s 44, s 45, s 46, s 47, s 48, s 49, s 50, s 51, s 52, s 53, s 54, s 55, s 56, s 57, s 58, s 59, s 60, s 61, s 62, s 63, s 64, s 65, s 66, s 67, s 68, s 69, s 70, s 71, s 72, s 73, s 74, s 75, s 76, s 77, s 78, s 79, s 80, s 81, s 82, s 83, s 84, s 85, s 86, s 87, s 88, s 89, s 90, s 91, s 92, s 93, s 94, s 95, s 96, s 97, s 98, s 99, s 100, s 101, s 102, s 103, s 104, s 105, s 106, s 107, s 108, s 109, s 110, s 111, s 112, s 113, s 114, s 115, s 116, s 117, s 118, s 119, s 120, s 121, s 122, s 123, s 124, s 125, s 126, s 127, s 128, s 129, s 130, s 131, s 132, s 133, s 134, s 135, s 136, s 137, s 138, s 139, s 140, s 141, s 142, s 143, s 144, s 145, s 146, s 147, s 148, s 149, s 150, s 151, s 152, s 153, s 154, s 155, s 156, s 157, s 158, s 159, s 160, s 161, s 162, s 163], []⟩
set_option maxRecDepth 100000 in
set_option maxHeartbeats 12800000 in
theorem FrB.mk {g : Nat} {now : Int} {gt : Nat} {kn : Bool} {s0 s2 s4 s7 s8 s9 s10 s13 s14 s15 s16 s17 s18 s19 s20 s21 s22 s23 s24 s25 s26 s27 s28 s29 s30 s31 s32 s33 s34 s35 s36 s37 s38 s39 s40 s41 s42 s43 s44 s45 s46 s47 s48 s49 s50 s51 s52 s53 s54 s55 s56 s57 s58 s59 s60 s61 s62 s63 s64 s65 s66 s67 s68 s69 s70 s71 s72 s73 s74 s75 s76 s77 s78 s79 s80 s81 s82 s83 s84 s85 s86 s87 s88 s89 s90 s91 s92 s93 s94 s95 s96 s97 s98 s99 s100 s101 s102 s103 s104 s105 s106 s107 s108 s109 s110 s111 s112 s113 s114 s115 s116 s117 s118 s119 s120 s121 s122 s123 s124 s125 s126 s127 s128 s129 s130 s131 s132 s133 s134 s135 s136 s137 s138 s139 s140 s141 s142 s143 s144 s145 s146 s147 s148 s149 s150 s151 s152 s153 s154 s155 s156 s157 s158 s159 s160 s161 s162 s163 : Value} : FrB g now gt kn ⟨#[s0, .int .i64 now, s2, .pointer (some ⟨g, 0, none⟩), s4, .pointer (some ⟨g + 1, 0, none⟩), .pointer (some ⟨g + 1 + 1, 0, none⟩), s7, s8, s9, s10, .pointer (some ⟨gt, 0, none⟩), .bool kn, s13, s14, s15, s16, s17, s18, s19, s20, s21, s22, s23, s24, s25, s26, s27, s28, s29, s30, s31, s32, s33, s34, s35, s36, s37, s38, s39, s40, s41, s42, s43, s44, s45, s46, s47, s48, s49, s50, s51, s52, s53, s54, s55, s56, s57, s58, s59, s60, s61, s62, s63, s64, s65, s66, s67, s68, s69, s70, s71, s72, s73, s74, s75, s76, s77, s78, s79, s80, s81, s82, s83, s84, s85, s86, s87, s88, s89, s90, s91, s92, s93, s94, s95, s96, s97, s98, s99, s100, s101, s102, s103, s104, s105, s106, s107, s108, s109, s110, s111, s112, s113, s114, s115, s116, s117, s118, s119, s120, s121, s122, s123, s124, s125, s126, s127, s128, s129, s130, s131, s132, s133, s134, s135, s136, s137, s138, s139, s140, s141, s142, s143, s144, s145, s146, s147, s148, s149, s150, s151, s152, s153, s154, s155, s156, s157, s158, s159, s160, s161, s162, s163], []⟩ := ⟨fun k => [s0, undef, s2, undef, s4, undef, undef, s7, s8, s9, s10, undef, undef, s13, s14, s15, s16, s17, s18, s19, s20, s21, s22, s23, s24, s25, s26, s27, s28, s29, s30, s31, s32, s33, s34, s35, s36, s37, s38, s39, s40, s41, s42, s43, s44, s45, s46, s47, s48, s49, s50, s51, s52, s53, s54, s55, s56, s57, s58, s59, s60, s61, s62, s63, s64, s65, s66, s67, s68, s69, s70, s71, s72, s73, s74, s75, s76, s77, s78, s79, s80, s81, s82, s83, s84, s85, s86, s87, s88, s89, s90, s91, s92, s93, s94, s95, s96, s97, s98, s99, s100, s101, s102, s103, s104, s105, s106, s107, s108, s109, s110, s111, s112, s113, s114, s115, s116, s117, s118, s119, s120, s121, s122, s123, s124, s125, s126, s127, s128, s129, s130, s131, s132, s133, s134, s135, s136, s137, s138, s139, s140, s141, s142, s143, s144, s145, s146, s147, s148, s149, s150, s151, s152, s153, s154, s155, s156, s157, s158, s159, s160, s161, s162, s163].getD k undef, rfl⟩
set_option maxRecDepth 100000 in
set_option maxHeartbeats 12800000 in
def FrC (g : Nat) (now : Int) (gt : Nat) (on : Bool) (fn : Int) (a : Act) : Prop := ∃ s : Nat → Value, a = ⟨#[s 0, .int .i64 now, s 2, .pointer (some ⟨g, 0, none⟩), s 4, .pointer (some ⟨g + 1, 0, none⟩), .pointer (some ⟨g + 1 + 1, 0, none⟩), s 7, s 8, s 9, s 10, .pointer (some ⟨gt, 0, none⟩), s 12, .bool on, s 14, .int .i64 fn, s 16, s 17, s 18, s 19, s 20, s 21, s 22, s 23, s 24, s 25, s 26, s 27, s 28, s 29, s 30, s 31, s 32, s 33, s 34, s 35, s 36, s 37, s 38, s 39, s 40, s 41, s 42, s 43, s 44, s 45, s 46, s 47, s 48, s 49, s 50, s 51, s 52, s 53, s 54, s 55, s 56, s 57, s 58, s 59, s 60, s 61, s 62, s 63, s 64, s 65, s 66, s 67, s 68, s 69, s 70, s 71, s 72, s 73, s 74, s 75, s 76, s 77, s 78, s 79, s 80, s 81, s 82, s 83, s 84, s 85, s 86, s 87, s 88, s 89, s 90, s 91, s 92, s 93, s 94, s 95, s 96, s 97, s 98, s 99, s 100, s 101, s 102, s 103, s 104, s 105, s 106, s 107, s 108, s 109, s 110, s 111, s 112, s 113, s 114, s 115, s 116, s 117, s 118, s 119, s 120, s 121, s 122, s 123, s 124, s 125, s 126, s 127, s 128, s 129, s 130, s 131, s 132, s 133, s 134, s 135, s 136, s 137, s 138, s 139, s 140, s 141, s 142, s 143, s 144, s 145, s 146, s 147, s 148, s 149, s 150, s 151, s 152, s 153, s 154, s 155, s 156, s 157, s 158, s 159, s 160, s 161, s 162, s 163], []⟩
set_option maxRecDepth 100000 in
set_option maxHeartbeats 12800000 in
theorem FrC.mk {g : Nat} {now : Int} {gt : Nat} {on : Bool} {fn : Int} {s0 s2 s4 s7 s8 s9 s10 s12 s14 s16 s17 s18 s19 s20 s21 s22 s23 s24 s25 s26 s27 s28 s29 s30 s31 s32 s33 s34 s35 s36 s37 s38 s39 s40 s41 s42 s43 s44 s45 s46 s47 s48 s49 s50 s51 s52 s53 s54 s55 s56 s57 s58 s59 s60 s61 s62 s63 s64 s65 s66 s67 s68 s69 s70 s71 s72 s73 s74 s75 s76 s77 s78 s79 s80 s81 s82 s83 s84 s85 s86 s87 s88 s89 s90 s91 s92 s93 s94 s95 s96 s97 s98 s99 s100 s101 s102 s103 s104 s105 s106 s107 s108 s109 s110 s111 s112 s113 s114 s115 s116 s117 s118 s119 s120 s121 s122 s123 s124 s125 s126 s127 s128 s129 s130 s131 s132 s133 s134 s135 s136 s137 s138 s139 s140 s141 s142 s143 s144 s145 s146 s147 s148 s149 s150 s151 s152 s153 s154 s155 s156 s157 s158 s159 s160 s161 s162 s163 : Value} : FrC g now gt on fn ⟨#[s0, .int .i64 now, s2, .pointer (some ⟨g, 0, none⟩), s4, .pointer (some ⟨g + 1, 0, none⟩), .pointer (some ⟨g + 1 + 1, 0, none⟩), s7, s8, s9, s10, .pointer (some ⟨gt, 0, none⟩), s12, .bool on, s14, .int .i64 fn, s16, s17, s18, s19, s20, s21, s22, s23, s24, s25, s26, s27, s28, s29, s30, s31, s32, s33, s34, s35, s36, s37, s38, s39, s40, s41, s42, s43, s44, s45, s46, s47, s48, s49, s50, s51, s52, s53, s54, s55, s56, s57, s58, s59, s60, s61, s62, s63, s64, s65, s66, s67, s68, s69, s70, s71, s72, s73, s74, s75, s76, s77, s78, s79, s80, s81, s82, s83, s84, s85, s86, s87, s88, s89, s90, s91, s92, s93, s94, s95, s96, s97, s98, s99, s100, s101, s102, s103, s104, s105, s106, s107, s108, s109, s110, s111, s112, s113, s114, s115, s116, s117, s118, s119, s120, s121, s122, s123, s124, s125, s126, s127, s128, s129, s130, s131, s132, s133, s134, s135, s136, s137, s138, s139, s140, s141, s142, s143, s144, s145, s146, s147, s148, s149, s150, s151, s152, s153, s154, s155, s156, s157, s158, s159, s160, s161, s162, s163], []⟩ := ⟨fun k => [s0, undef, s2, undef, s4, undef, undef, s7, s8, s9, s10, undef, s12, undef, s14, undef, s16, s17, s18, s19, s20, s21, s22, s23, s24, s25, s26, s27, s28, s29, s30, s31, s32, s33, s34, s35, s36, s37, s38, s39, s40, s41, s42, s43, s44, s45, s46, s47, s48, s49, s50, s51, s52, s53, s54, s55, s56, s57, s58, s59, s60, s61, s62, s63, s64, s65, s66, s67, s68, s69, s70, s71, s72, s73, s74, s75, s76, s77, s78, s79, s80, s81, s82, s83, s84, s85, s86, s87, s88, s89, s90, s91, s92, s93, s94, s95, s96, s97, s98, s99, s100, s101, s102, s103, s104, s105, s106, s107, s108, s109, s110, s111, s112, s113, s114, s115, s116, s117, s118, s119, s120, s121, s122, s123, s124, s125, s126, s127, s128, s129, s130, s131, s132, s133, s134, s135, s136, s137, s138, s139, s140, s141, s142, s143, s144, s145, s146, s147, s148, s149, s150, s151, s152, s153, s154, s155, s156, s157, s158, s159, s160, s161, s162, s163].getD k undef, rfl⟩
set_option maxRecDepth 100000 in
set_option maxHeartbeats 12800000 in
def FrE (g : Nat) (now : Int) (on : Bool) (fn t : Int) (a : Act) : Prop := ∃ s : Nat → Value, a = ⟨#[s 0, .int .i64 now, s 2, .pointer (some ⟨g, 0, none⟩), s 4, .pointer (some ⟨g + 1, 0, none⟩), .pointer (some ⟨g + 1 + 1, 0, none⟩), s 7, s 8, s 9, s 10, s 11, s 12, .bool on, s 14, .int .i64 fn, s 16, .int .i64 t, s 18, s 19, s 20, s 21, s 22, s 23, s 24, s 25, s 26, s 27, s 28, s 29, s 30, s 31, s 32, s 33, s 34, s 35, s 36, s 37, s 38, s 39, s 40, s 41, s 42, s 43, s 44, s 45, s 46, s 47, s 48, s 49, s 50, s 51, s 52, s 53, s 54, s 55, s 56, s 57, s 58, s 59, s 60, s 61, s 62, s 63, s 64, s 65, s 66, s 67, s 68, s 69, s 70, s 71, s 72, s 73, s 74, s 75, s 76, s 77, s 78, s 79, s 80, s 81, s 82, s 83, s 84, s 85, s 86, s 87, s 88, s 89, s 90, s 91, s 92, s 93, s 94, s 95, s 96, s 97, s 98, s 99, s 100, s 101, s 102, s 103, s 104, s 105, s 106, s 107, s 108, s 109, s 110, s 111, s 112, s 113, s 114, s 115, s 116, s 117, s 118, s 119, s 120, s 121, s 122, s 123, s 124, s 125, s 126, s 127, s 128, s 129, s 130, s 131, s 132, s 133, s 134, s 135, s 136, s 137, s 138, s 139, s 140, s 141, s 142, s 143, s 144, s 145, s 146, s 147, s 148, s 149, s 150, s 151, s 152, s 153, s 154, s 155, s 156, s 157, s 158, s 159, s 160, s 161, s 162, s 163], []⟩
set_option maxRecDepth 100000 in
set_option maxHeartbeats 12800000 in
theorem FrE.mk {g : Nat} {now : Int} {on : Bool} {fn t : Int} {s0 s2 s4 s7 s8 s9 s10 s11 s12 s14 s16 s18 s19 s20 s21 s22 s23 s24 s25 s26 s27 s28 s29 s30 s31 s32 s33 s34 s35 s36 s37 s38 s39 s40 s41 s42 s43 s44 s45 s46 s47 s48 s49 s50 s51 s52 s53 s54 s55 s56 s57 s58 s59 s60 s61 s62 s63 s64 s65 s66 s67 s68 s69 s70 s71 s72 s73 s74 s75 s76 s77 s78 s79 s80 s81 s82 s83 s84 s85 s86 s87 s88 s89 s90 s91 s92 s93 s94 s95 s96 s97 s98 s99 s100 s101 s102 s103 s104 s105 s106 s107 s108 s109 s110 s111 s112 s113 s114 s115 s116 s117 s118 s119 s120 s121 s122 s123 s124 s125 s126 s127 s128 s129 s130 s131 s132 s133 s134 s135 s136 s137 s138 s139 s140 s141 s142 s143 s144 s145 s146 s147 s148 s149 s150 s151 s152 s153 s154 s155 s156 s157 s158 s159 s160 s161 s162 s163 : Value} : FrE g now on fn t ⟨#[s0, .int .i64 now, s2, .pointer (some ⟨g, 0, none⟩), s4, .pointer (some ⟨g + 1, 0, none⟩), .pointer (some ⟨g + 1 + 1, 0, none⟩), s7, s8, s9, s10, s11, s12, .bool on, s14, .int .i64 fn, s16, .int .i64 t, s18, s19, s20, s21, s22, s23, s24, s25, s26, s27, s28, s29, s30, s31, s32, s33, s34, s35, s36, s37, s38, s39, s40, s41, s42, s43, s44, s45, s46, s47, s48, s49, s50, s51, s52, s53, s54, s55, s56, s57, s58, s59, s60, s61, s62, s63, s64, s65, s66, s67, s68, s69, s70, s71, s72, s73, s74, s75, s76, s77, s78, s79, s80, s81, s82, s83, s84, s85, s86, s87, s88, s89, s90, s91, s92, s93, s94, s95, s96, s97, s98, s99, s100, s101, s102, s103, s104, s105, s106, s107, s108, s109, s110, s111, s112, s113, s114, s115, s116, s117, s118, s119, s120, s121, s122, s123, s124, s125, s126, s127, s128, s129, s130, s131, s132, s133, s134, s135, s136, s137, s138, s139, s140, s141, s142, s143, s144, s145, s146, s147, s148, s149, s150, s151, s152, s153, s154, s155, s156, s157, s158, s159, s160, s161, s162, s163], []⟩ := ⟨fun k => [s0, undef, s2, undef, s4, undef, undef, s7, s8, s9, s10, s11, s12, undef, s14, undef, s16, undef, s18, s19, s20, s21, s22, s23, s24, s25, s26, s27, s28, s29, s30, s31, s32, s33, s34, s35, s36, s37, s38, s39, s40, s41, s42, s43, s44, s45, s46, s47, s48, s49, s50, s51, s52, s53, s54, s55, s56, s57, s58, s59, s60, s61, s62, s63, s64, s65, s66, s67, s68, s69, s70, s71, s72, s73, s74, s75, s76, s77, s78, s79, s80, s81, s82, s83, s84, s85, s86, s87, s88, s89, s90, s91, s92, s93, s94, s95, s96, s97, s98, s99, s100, s101, s102, s103, s104, s105, s106, s107, s108, s109, s110, s111, s112, s113, s114, s115, s116, s117, s118, s119, s120, s121, s122, s123, s124, s125, s126, s127, s128, s129, s130, s131, s132, s133, s134, s135, s136, s137, s138, s139, s140, s141, s142, s143, s144, s145, s146, s147, s148, s149, s150, s151, s152, s153, s154, s155, s156, s157, s158, s159, s160, s161, s162, s163].getD k undef, rfl⟩
set_option maxRecDepth 100000 in
set_option maxHeartbeats 12800000 in
def FrD (g : Nat) (now fn t : Int) (a : Act) : Prop := ∃ s : Nat → Value, a = ⟨#[s 0, .int .i64 now, s 2, .pointer (some ⟨g, 0, none⟩), s 4, .pointer (some ⟨g + 1, 0, none⟩), .pointer (some ⟨g + 1 + 1, 0, none⟩), s 7, s 8, s 9, s 10, s 11, s 12, s 13, s 14, .int .i64 fn, s 16, .int .i64 t, s 18, s 19, s 20, s 21, s 22, s 23, s 24, s 25, s 26, s 27, s 28, s 29, s 30, s 31, s 32, s 33, s 34, s 35, s 36, s 37, s 38, s 39, s 40, s 41, s 42, s 43, s 44, s 45, s 46, s 47, s 48, s 49, s 50, s 51, s 52, s 53, s 54, s 55, s 56, s 57, s 58, s 59, s 60, s 61, s 62, s 63, s 64, s 65, s 66, s 67, s 68, s 69, s 70, s 71, s 72, s 73, s 74, s 75, s 76, s 77, s 78, s 79, s 80, s 81, s 82, s 83, s 84, s 85, s 86, s 87, s 88, s 89, s 90, s 91, s 92, s 93, s 94, s 95, s 96, s 97, s 98, s 99, s 100, s 101, s 102, s 103, s 104, s 105, s 106, s 107, s 108, s 109, s 110, s 111, s 112, s 113, s 114, s 115, s 116, s 117, s 118, s 119, s 120, s 121, s 122, s 123, s 124, s 125, s 126, s 127, s 128, s 129, s 130, s 131, s 132, s 133, s 134, s 135, s 136, s 137, s 138, s 139, s 140, s 141, s 142, s 143, s 144, s 145, s 146, s 147, s 148, s 149, s 150, s 151, s 152, s 153, s 154, s 155, s 156, s 157, s 158, s 159, s 160, s 161, s 162, s 163], []⟩
set_option maxRecDepth 100000 in
set_option maxHeartbeats 12800000 in
theorem FrD.mk {g : Nat} {now fn t : Int} {s0 s2 s4 s7 s8 s9 s10 s11 s12 s13 s14 s16 s18 s19 s20 s21 s22 s23 s24 s25 s26 s27 s28 s29 s30 s31 s32 s33 s34 s35 s36 s37 s38 s39 s40 s41 s42 s43 s44 s45 s46 s47 s48 s49 s50 s51 s52 s53 s54 s55 s56 s57 s58 s59 s60 s61 s62 s63 s64 s65 s66 s67 s68 s69 s70 s71 s72 s73 s74 s75 s76 s77 s78 s79 s80 s81 s82 s83 s84 s85 s86 s87 s88 s89 s90 s91 s92 s93 s94 s95 s96 s97 s98 s99 s100 s101 s102 s103 s104 s105 s106 s107 s108 s109 s110 s111 s112 s113 s114 s115 s116 s117 s118 s119 s120 s121 s122 s123 s124 s125 s126 s127 s128 s129 s130 s131 s132 s133 s134 s135 s136 s137 s138 s139 s140 s141 s142 s143 s144 s145 s146 s147 s148 s149 s150 s151 s152 s153 s154 s155 s156 s157 s158 s159 s160 s161 s162 s163 : Value} : FrD g now fn t ⟨#[s0, .int .i64 now, s2, .pointer (some ⟨g, 0, none⟩), s4, .pointer (some ⟨g + 1, 0, none⟩), .pointer (some ⟨g + 1 + 1, 0, none⟩), s7, s8, s9, s10, s11, s12, s13, s14, .int .i64 fn, s16, .int .i64 t, s18, s19, s20, s21, s22, s23, s24, s25, s26, s27, s28, s29, s30, s31, s32, s33, s34, s35, s36, s37, s38, s39, s40, s41, s42, s43, s44, s45, s46, s47, s48, s49, s50, s51, s52, s53, s54, s55, s56, s57, s58, s59, s60, s61, s62, s63, s64, s65, s66, s67, s68, s69, s70, s71, s72, s73, s74, s75, s76, s77, s78, s79, s80, s81, s82, s83, s84, s85, s86, s87, s88, s89, s90, s91, s92, s93, s94, s95, s96, s97, s98, s99, s100, s101, s102, s103, s104, s105, s106, s107, s108, s109, s110, s111, s112, s113, s114, s115, s116, s117, s118, s119, s120, s121, s122, s123, s124, s125, s126, s127, s128, s129, s130, s131, s132, s133, s134, s135, s136, s137, s138, s139, s140, s141, s142, s143, s144, s145, s146, s147, s148, s149, s150, s151, s152, s153, s154, s155, s156, s157, s158, s159, s160, s161, s162, s163], []⟩ := ⟨fun k => [s0, undef, s2, undef, s4, undef, undef, s7, s8, s9, s10, s11, s12, s13, s14, undef, s16, undef, s18, s19, s20, s21, s22, s23, s24, s25, s26, s27, s28, s29, s30, s31, s32, s33, s34, s35, s36, s37, s38, s39, s40, s41, s42, s43, s44, s45, s46, s47, s48, s49, s50, s51, s52, s53, s54, s55, s56, s57, s58, s59, s60, s61, s62, s63, s64, s65, s66, s67, s68, s69, s70, s71, s72, s73, s74, s75, s76, s77, s78, s79, s80, s81, s82, s83, s84, s85, s86, s87, s88, s89, s90, s91, s92, s93, s94, s95, s96, s97, s98, s99, s100, s101, s102, s103, s104, s105, s106, s107, s108, s109, s110, s111, s112, s113, s114, s115, s116, s117, s118, s119, s120, s121, s122, s123, s124, s125, s126, s127, s128, s129, s130, s131, s132, s133, s134, s135, s136, s137, s138, s139, s140, s141, s142, s143, s144, s145, s146, s147, s148, s149, s150, s151, s152, s153, s154, s155, s156, s157, s158, s159, s160, s161, s162, s163].getD k undef, rfl⟩
noncomputable def rcA_code : Code := ((Try.f12.body.bind (fromReg 6)).getD .skip)
noncomputable def rcB_code : Code := ((Try.f12.body.bind (fromReg 11)).getD .skip)
noncomputable def rcC_code : Code := ((Try.f12.body.bind (fromReg 18)).getD .skip)
noncomputable def rcE_code : Code := ((Try.f12.body.bind (fromReg 23)).getD .skip)
noncomputable def rcD_code : Code := ((Try.f12.body.bind (fromReg 25)).getD .skip)
end Go.Proofs.Ytahbecinkciahaa
/- Layer 32: Receive, up to its tests. -/
namespace Go.Proofs.Ytahbecinkciahaa
open Go.RowKit
set_option linter.unusedVariables false
set_option linter.unusedSimpArgs false
attribute [local go_sem ↓] run_min_plain run_max_plain
attribute [local go_sem] setCell_drewN alloc_drewN
set_option maxRecDepth 100000 in
set_option maxHeartbeats 12800000 in
theorem recv_pre {w : World} {p : Sb.Pt} {A : Option Addr} {l : List TW} {n c : Nat} {x : Rx} {now : Int} {X : Array Value} {R : Ending → World → Prop} (C : RC w p A l n c x now) (hw : p.wf) (hX : X = PA p A n c) (hc : Sb.chkT p now = 0)
    (h : ∀ (W : World) (a : Act), RS w W p A n c x → FrA w.heap.size now a → firstWp Try.prog rcA_code (bodyPost Try.prog Try.f12 R) a W) : Calls Try.prog 12 #[.agg X, .int .i64 now, .agg x.row] w R := by
  have S : RS w (((w.alloc (Obj.cells X 43)).alloc (Obj.cells x.row 57)).alloc (Obj.cells (PA Sb.Pt.zero none 0 0) 43)) p A n c x := ⟨((PB.new w X hX).push (.cells x.row 57)).push (.cells (PA Sb.Pt.zero none 0 0) 43), (Blk.new1 w (.cells X 43) 57 x.row).push (.cells (PA Sb.Pt.zero none 0 0) 43), Blk.new2 w (.cells X 43) (.cells x.row 57) 43 (PA Sb.Pt.zero none 0 0), (((Bel.refl w).push (.cells X 43)).push (.cells x.row 57)).push (.cells (PA Sb.Pt.zero none 0 0) 43)⟩
  have k1 := Lib.hid fun (W : World) hW => checkTime_any p hw A l n c (PA p A n c) rfl W C.q C.len C.n5 hW C.sq now
  rw [hc] at k1
  have hl15 : (x.pl.length : Int) ≤ 1500 := by have := C.h15; omega
  clear hX hc hw
  go_enter Try.func12, Try.ntmps12
  go_upto_region 1 with fail
  change Code.wp _ _ _ _ (((w.alloc (Obj.cells X 43)).alloc (Obj.cells x.row 57)).alloc (Obj.cells (PA Sb.Pt.zero none 0 0) 43))
  obtain ⟨W, hW⟩ : ∃ W, W = ((w.alloc (Obj.cells X 43)).alloc (Obj.cells x.row 57)).alloc (Obj.cells (PA Sb.Pt.zero none 0 0) 43) := ⟨_, rfl⟩
  rw [← hW] at S ⊢
  clear hW
  go_wp2_with (first | (refine wpList_load_part rfl 43 (.tmp 3) rfl (w.heap.size) 0 rfl 43 (PL p A n c) S.b0 48 _ Try.underlying43 info_port (show 0 + 48 ≤ 48 by decide) (PA p A n c) (by rfl) rfl ?_) | fail)
  refine (k1.out _ (C.av.later S.u)).mono ?_
  rintro e w1 ⟨rfl, hb1⟩
  replace S := S.later hb1
  clear hb1 k1
  have x9 := S.c9
  go_upto_region 6 with fail
  clear x9
  refine first1 (by assumption) ?_
  exact h _ _ S FrA.mk
end Go.Proofs.Ytahbecinkciahaa
/- Layer 32: Receive, a packet of speech or noise is known. -/
namespace Go.Proofs.Ytahbecinkciahaa
open Go.RowKit
set_option linter.unusedVariables false
set_option linter.unusedSimpArgs false
attribute [local go_sem ↓] run_min_plain run_max_plain
attribute [local go_sem] setCell_drewN alloc_drewN
set_option maxRecDepth 100000 in
set_option maxHeartbeats 12800000 in
theorem rcA_wp {w W : World} {p : Sb.Pt} {A : Option Addr} {l : List TW} {n c : Nat} {x : Rx} {now : Int} (C : RC w p A l n c x now) (S : RS w W p A n c x) {R : Ending → World → Prop} (hk : speechB x.ty = true ∨ x.ty = 13)
    (h : ∀ (W : World) (a : Act) (gt : Nat), RS w W p A n c x → FrB w.heap.size now gt true a → firstWp Try.prog rcB_code (bodyPost Try.prog Try.f12 R) a W) (a : Act) (ha : FrA w.heap.size now a) : firstWp Try.prog rcA_code (bodyPost Try.prog Try.f12 R) a W := by
  obtain ⟨s, rfl⟩ := ha
  have k2 := Lib.hid fun W => speech_any x.ty W C.ty0 C.ty1
  have h101 : ¬x.ty = 101 := by rcases hk with h | h; rcases speechB_iff.1 h with h | h | h <;> omega; omega
  refine first_r ?_
  intro _ _
  replace S := S.push (.cells #[.int .u8 0, .bool false, .int .u8 0, .int .u16 0] 86)
  obtain ⟨W2, hW2⟩ : ∃ V, V = W.alloc (Obj.cells #[.int .u8 0, .bool false, .int .u8 0, .int .u16 0] 86) := ⟨_, rfl⟩
  go_upto_region 7 with fail
  rw [← hW2] at S ⊢
  obtain ⟨gt, hgt⟩ : ∃ g, g = W.heap.size := ⟨_, rfl⟩
  rw [← hgt]
  clear hW2 hgt
  have x1 := S.c1
  go_wp2_with fail
  refine (k2.out _).mono ?_
  rintro e w3 ⟨rfl, hb1⟩
  replace S := S.later hb1
  clear hb1 k2 x1
  have x1 := S.c1
  cases hs : speechB x.ty
  · have h13 : x.ty = 13 := by
      rcases hk with h | h
      · rw [hs] at h; cases h
      · exact h
    clear hs hk
    rw [h13] at x1
    go_upto_region 11 with fail
    refine first2 (by assumption) (by assumption) ?_
    exact h _ _ _ S FrB.mk
  · clear hs hk
    go_upto_region 11 with fail
    refine first2 (by assumption) (by assumption) ?_
    exact h _ _ _ S FrB.mk
end Go.Proofs.Ytahbecinkciahaa
/- Layer 25: sequence numbers, in the program and in the reference. -/
namespace Go.Proofs.Ytahbecinkciahaa
open Go.RowKit
set_option linter.unusedVariables false
set_option linter.unusedSimpArgs false
attribute [local go_sem ↓] run_min_plain run_max_plain
attribute [local go_sem] setCell_drewN alloc_drewN
theorem pk_ret2 {k : IntKind} {a b : Int} (h : a = b) : Ending.returned (.int k a) = .returned (.int k b) := by rw [h]
theorem pk_i64s (x : Int) (h0 : -9223372036854775808 ≤ x) (h1 : x ≤ 9223372036854775807) : IntKind.i64.wrap x = x := by
  by_cases h : 0 ≤ x
  · have e : x % 2 ^ 64 = x := Int.emod_eq_of_lt h (by omega)
    simp only [IntKind.wrap, IntKind.bits, IntKind.signed, e]
    rw [if_neg (by simp; omega)]
  · have e : x % 2 ^ 64 = x + 2 ^ 64 := by omega
    simp only [IntKind.wrap, IntKind.bits, IntKind.signed, e]
    rw [if_pos (by simp; omega)]
    omega
theorem u16_wrap (n : Int) : IntKind.u16.wrap n = n % 65536 := by simp [IntKind.wrap, IntKind.bits, IntKind.signed]
theorem i64_mask16 (z : Int) : bits BinOp.and IntKind.i64 z 65535 = z % 65536 := by
  show IntKind.i64.wrap (((BitVec.ofInt 64 z &&& BitVec.ofInt 64 65535).toNat : Nat) : Int) = _
  have e : (BitVec.ofInt 64 65535).toNat = 2 ^ 16 - 1 := by decide
  rw [BitVec.toNat_and, e, Nat.and_two_pow_sub_one_eq_mod, BitVec.toNat_ofInt]
  have h : (((z % (2 ^ 64 : Nat)).toNat % 2 ^ 16 : Nat) : Int) = z % 65536 := by omega
  rw [h, pk_i64s _ (by omega) (by omega)]
theorem i64_mask32 (z : Int) : bits BinOp.and IntKind.i64 z 4294967295 = z % 4294967296 := by
  show IntKind.i64.wrap (((BitVec.ofInt 64 z &&& BitVec.ofInt 64 4294967295).toNat : Nat) : Int) = _
  have e : (BitVec.ofInt 64 4294967295).toNat = 2 ^ 32 - 1 := by decide
  rw [BitVec.toNat_and, e, Nat.and_two_pow_sub_one_eq_mod, BitVec.toNat_ofInt]
  have h : (((z % (2 ^ 64 : Nat)).toNat % 2 ^ 32 : Nat) : Int) = z % 4294967296 := by omega
  rw [h, pk_i64s _ (by omega) (by omega)]
section
variable (last x a b : Int) (w : World)
set_option maxRecDepth 100000 in
set_option maxHeartbeats 1600000 in
theorem near16_any (x0 : 0 ≤ x) (x1 : x ≤ 65535) (l0 : -9223372036854775808 ≤ last) (l1 : last ≤ 9223372036854775807) : Calls Try.prog 51 #[.int .i64 last, .int .i64 x, .int .i64 65536] w fun e w' => e = .returned (.int .i64 (Pk.near last x 65536)) ∧ w = w' := by
  obtain ⟨R, hR⟩ : ∃ R, R = Pk.near last x 65536 := ⟨_, rfl⟩
  rw [← hR]
  unfold Pk.near at hR
  by_cases h1 : last < -1152921504606846976
  · rw [if_pos (.inl h1)] at hR
    subst hR
    go_enter Try.func51, Try.ntmps51
    go_wp2
    go_ret
    exact ⟨rfl, rfl⟩
  by_cases h2 : 1152921504606846976 < last
  · rw [if_pos (.inr h2)] at hR
    subst hR
    go_enter Try.func51, Try.ntmps51
    go_wp2
    go_ret
    exact ⟨rfl, rfl⟩
  rw [if_neg (by omega)] at hR
  have h1' : -1152921504606846976 ≤ last := by omega
  have h2' : last ≤ 1152921504606846976 := by omega
  have hmk := i64_mask16 (x - last)
  obtain ⟨d, hd⟩ : ∃ d, d = (x - last) % 65536 := ⟨_, rfl⟩
  have hd0 : 0 ≤ d := by omega
  have hd1 : d ≤ 65535 := by omega
  rw [← hd] at hR hmk
  rw [show (65536 : Int) / 2 = 32768 by decide] at hR
  clear h1 h2
  clear hd
  by_cases h3 : 32768 < d
  · rw [if_pos h3] at hR
    have HR := Lib.hid hR
    clear hR
    go_enter Try.func51, Try.ntmps51
    go_wp2
    go_ret
    exact ⟨pk_ret2 (by have := HR.out; omega), rfl⟩
  · rw [if_neg h3] at hR
    have HR := Lib.hid hR
    have h3' : d ≤ 32768 := by omega
    clear hR h3
    go_enter Try.func51, Try.ntmps51
    go_wp2
    go_ret
    exact ⟨pk_ret2 (by have := HR.out; omega), rfl⟩
set_option maxRecDepth 100000 in
set_option maxHeartbeats 1600000 in
theorem near32_any (x0 : 0 ≤ x) (x1 : x ≤ 4294967295) (l0 : -9223372036854775808 ≤ last) (l1 : last ≤ 9223372036854775807) : Calls Try.prog 51 #[.int .i64 last, .int .i64 x, .int .i64 4294967296] w fun e w' => e = .returned (.int .i64 (Pk.near last x 4294967296)) ∧ w = w' := by
  obtain ⟨R, hR⟩ : ∃ R, R = Pk.near last x 4294967296 := ⟨_, rfl⟩
  rw [← hR]
  unfold Pk.near at hR
  by_cases h1 : last < -1152921504606846976
  · rw [if_pos (.inl h1)] at hR
    subst hR
    go_enter Try.func51, Try.ntmps51
    go_wp2
    go_ret
    exact ⟨rfl, rfl⟩
  by_cases h2 : 1152921504606846976 < last
  · rw [if_pos (.inr h2)] at hR
    subst hR
    go_enter Try.func51, Try.ntmps51
    go_wp2
    go_ret
    exact ⟨rfl, rfl⟩
  rw [if_neg (by omega)] at hR
  have h1' : -1152921504606846976 ≤ last := by omega
  have h2' : last ≤ 1152921504606846976 := by omega
  have hmk := i64_mask32 (x - last)
  obtain ⟨d, hd⟩ : ∃ d, d = (x - last) % 4294967296 := ⟨_, rfl⟩
  have hd0 : 0 ≤ d := by omega
  have hd1 : d ≤ 4294967295 := by omega
  rw [← hd] at hR hmk
  rw [show (4294967296 : Int) / 2 = 2147483648 by decide] at hR
  clear h1 h2
  clear hd
  by_cases h3 : 2147483648 < d
  · rw [if_pos h3] at hR
    have HR := Lib.hid hR
    clear hR
    go_enter Try.func51, Try.ntmps51
    go_wp2
    go_ret
    exact ⟨pk_ret2 (by have := HR.out; omega), rfl⟩
  · rw [if_neg h3] at hR
    have HR := Lib.hid hR
    have h3' : d ≤ 2147483648 := by omega
    clear hR h3
    go_enter Try.func51, Try.ntmps51
    go_wp2
    go_ret
    exact ⟨pk_ret2 (by have := HR.out; omega), rfl⟩
theorem Extend_any (x0 : 0 ≤ x) (x1 : x ≤ 65535) (l0 : -9223372036854775808 ≤ last) (l1 : last ≤ 9223372036854775807) : Calls Try.prog 49 #[.int .i64 last, .int .u16 x] w fun e w' => e = .returned (.int .i64 (Pk.near last x 65536)) ∧ w = w' := by
  have k1 := fun W => near16_any last x W x0 x1 l0 l1
  generalize Pk.near last x 65536 = R at *
  have K1 := Lib.hid k1
  clear k1
  go_enter Try.func49, Try.ntmps49
  go_wp2_with fail
  refine (K1.out _).mono ?_
  rintro e w1 ⟨rfl, rfl⟩
  go_wp2
  go_ret
  exact ⟨rfl, rfl⟩
theorem ExtendTime_any (x0 : 0 ≤ x) (x1 : x ≤ 4294967295) (l0 : -9223372036854775808 ≤ last) (l1 : last ≤ 9223372036854775807) : Calls Try.prog 32 #[.int .i64 last, .int .u32 x] w fun e w' => e = .returned (.int .i64 (Pk.near last x 4294967296)) ∧ w = w' := by
  have k1 := fun W => near32_any last x W x0 x1 l0 l1
  generalize Pk.near last x 4294967296 = R at *
  have K1 := Lib.hid k1
  clear k1
  go_enter Try.func32, Try.ntmps32
  go_wp2_with fail
  refine (K1.out _).mono ?_
  rintro e w1 ⟨rfl, rfl⟩
  go_wp2
  go_ret
  exact ⟨rfl, rfl⟩
end
end Go.Proofs.Ytahbecinkciahaa
/- Layer 25: Follow, in the program and in the reference. -/
namespace Go.Proofs.Ytahbecinkciahaa
open Go.RowKit
set_option linter.unusedVariables false
set_option linter.unusedSimpArgs false
attribute [local go_sem ↓] run_min_plain run_max_plain
attribute [local go_sem] setCell_drewN alloc_drewN
section
variable (high jump q : Int) (w : World)
set_option maxRecDepth 100000 in
set_option maxHeartbeats 1600000 in
theorem Follow_bad0 (q0 : 0 ≤ q) (q1 : q ≤ 65535) (b0 : -9223372036854775808 ≤ high) (b1 : high ≤ 9223372036854775807) (c0 : -9223372036854775808 ≤ jump) (c1 : jump ≤ 9223372036854775807) (on : Bool) (h : high < 0) : Calls Try.prog 30 #[.agg #[.bool on, .int .i64 high, .int .i64 jump], .int .u16 q] w fun e w' => e = .returned (.tuple #[.agg #[.bool false, .int .i64 0, .int .i64 0], .int .i64 0, .bool false]) ∧ Bel w w' := by
  go_enter Try.func30, Try.ntmps30
  go_wp2_with fail
  exact bodyPost_ret (v := .tuple #[.agg #[.bool false, .int .i64 0, .int .i64 0], .int .i64 0, .bool false]) (res_ctt Try.results30 rfl (run_loadVar_row (P := Try.prog) _ _ _ _ _ _ _ (Blk.new1 w _ _ _) Try.underlying37 rfl (by kernel_rfl)) rfl rfl) rfl ⟨rfl, Bel.push (Bel.push (Bel.refl w) _) _⟩
set_option maxRecDepth 100000 in
set_option maxHeartbeats 1600000 in
theorem Follow_bad1 (q0 : 0 ≤ q) (q1 : q ≤ 65535) (b0 : -9223372036854775808 ≤ high) (b1 : high ≤ 9223372036854775807) (c0 : -9223372036854775808 ≤ jump) (c1 : jump ≤ 9223372036854775807) (on : Bool) (g : 0 ≤ high) (h : 281474976710656 < high) : Calls Try.prog 30 #[.agg #[.bool on, .int .i64 high, .int .i64 jump], .int .u16 q] w fun e w' => e = .returned (.tuple #[.agg #[.bool false, .int .i64 0, .int .i64 0], .int .i64 0, .bool false]) ∧ Bel w w' := by
  go_enter Try.func30, Try.ntmps30
  go_wp2_with fail
  exact bodyPost_ret (v := .tuple #[.agg #[.bool false, .int .i64 0, .int .i64 0], .int .i64 0, .bool false]) (res_ctt Try.results30 rfl (run_loadVar_row (P := Try.prog) _ _ _ _ _ _ _ (Blk.new1 w _ _ _) Try.underlying37 rfl (by kernel_rfl)) rfl rfl) rfl ⟨rfl, Bel.push (Bel.push (Bel.refl w) _) _⟩
set_option maxRecDepth 100000 in
set_option maxHeartbeats 1600000 in
theorem Follow_bad2 (q0 : 0 ≤ q) (q1 : q ≤ 65535) (b0 : -9223372036854775808 ≤ high) (b1 : high ≤ 9223372036854775807) (c0 : -9223372036854775808 ≤ jump) (c1 : jump ≤ 9223372036854775807) (on : Bool) (g : 0 ≤ high) (g2 : high ≤ 281474976710656) (h : jump < -1) : Calls Try.prog 30 #[.agg #[.bool on, .int .i64 high, .int .i64 jump], .int .u16 q] w fun e w' => e = .returned (.tuple #[.agg #[.bool false, .int .i64 0, .int .i64 0], .int .i64 0, .bool false]) ∧ Bel w w' := by
  go_enter Try.func30, Try.ntmps30
  go_wp2_with fail
  exact bodyPost_ret (v := .tuple #[.agg #[.bool false, .int .i64 0, .int .i64 0], .int .i64 0, .bool false]) (res_ctt Try.results30 rfl (run_loadVar_row (P := Try.prog) _ _ _ _ _ _ _ (Blk.new1 w _ _ _) Try.underlying37 rfl (by kernel_rfl)) rfl rfl) rfl ⟨rfl, Bel.push (Bel.push (Bel.refl w) _) _⟩
set_option maxRecDepth 100000 in
set_option maxHeartbeats 1600000 in
theorem Follow_bad3 (q0 : 0 ≤ q) (q1 : q ≤ 65535) (b0 : -9223372036854775808 ≤ high) (b1 : high ≤ 9223372036854775807) (c0 : -9223372036854775808 ≤ jump) (c1 : jump ≤ 9223372036854775807) (on : Bool) (g : 0 ≤ high) (g2 : high ≤ 281474976710656) (g3 : -1 ≤ jump) (h : 65535 < jump) : Calls Try.prog 30 #[.agg #[.bool on, .int .i64 high, .int .i64 jump], .int .u16 q] w fun e w' => e = .returned (.tuple #[.agg #[.bool false, .int .i64 0, .int .i64 0], .int .i64 0, .bool false]) ∧ Bel w w' := by
  go_enter Try.func30, Try.ntmps30
  go_wp2_with fail
  exact bodyPost_ret (v := .tuple #[.agg #[.bool false, .int .i64 0, .int .i64 0], .int .i64 0, .bool false]) (res_ctt Try.results30 rfl (run_loadVar_row (P := Try.prog) _ _ _ _ _ _ _ (Blk.new1 w _ _ _) Try.underlying37 rfl (by kernel_rfl)) rfl rfl) rfl ⟨rfl, Bel.push (Bel.push (Bel.refl w) _) _⟩
set_option maxRecDepth 100000 in
set_option maxHeartbeats 1600000 in
theorem Follow_off (q0 : 0 ≤ q) (q1 : q ≤ 65535) (b0 : -9223372036854775808 ≤ high) (b1 : high ≤ 9223372036854775807) (c0 : -9223372036854775808 ≤ jump) (c1 : jump ≤ 9223372036854775807) (g : 0 ≤ high) (g2 : high ≤ 281474976710656) (g3 : -1 ≤ jump) (g4 : jump ≤ 65535) : Calls Try.prog 30 #[.agg #[.bool false, .int .i64 high, .int .i64 jump], .int .u16 q] w fun e w' => e = .returned (.tuple #[.agg #[.bool true, .int .i64 q, .int .i64 (-1)], .int .i64 q, .bool true]) ∧ Bel w w' := by
  go_enter Try.func30, Try.ntmps30
  go_wp2_with fail
  exact bodyPost_ret (v := .tuple #[.agg #[.bool true, .int .i64 q, .int .i64 (-1)], .int .i64 q, .bool true]) (res_ctt Try.results30 rfl (run_loadVar_row (P := Try.prog) _ _ _ _ _ _ _ (Blk.new1 w _ _ _) Try.underlying37 rfl (by kernel_rfl)) rfl rfl) rfl ⟨rfl, Bel.push (Bel.push (Bel.refl w) _) _⟩
set_option maxRecDepth 100000 in
set_option maxHeartbeats 1600000 in
theorem Follow_in (q0 : 0 ≤ q) (q1 : q ≤ 65535) (b0 : -9223372036854775808 ≤ high) (b1 : high ≤ 9223372036854775807) (c0 : -9223372036854775808 ≤ jump) (c1 : jump ≤ 9223372036854775807) (g : 0 ≤ high) (g2 : high ≤ 281474976710656) (g3 : -1 ≤ jump) (g4 : jump ≤ 65535) (h1 : 0 ≤ Pk.near high q 65536) (h2 : Pk.near high q 65536 ≤ high + 3000) (h3 : high - 100 ≤ Pk.near high q 65536) : Calls Try.prog 30 #[.agg #[.bool true, .int .i64 high, .int .i64 jump], .int .u16 q] w fun e w' => e = .returned (.tuple #[.agg #[.bool true, .int .i64 (max high (Pk.near high q 65536)), .int .i64 (-1)], .int .i64 (Pk.near high q 65536), .bool true]) ∧ Bel w w' := by
  have k1 := fun W => Extend_any high q W q0 q1 b0 b1
  obtain ⟨n, hn⟩ : ∃ n, n = Pk.near high q 65536 := ⟨_, rfl⟩
  simp only [← hn]
  rw [← hn] at k1 h1 h2 h3
  have hnb := Pk.near_bd16 high q (by omega)
  rw [← hn] at hnb
  obtain ⟨n0, n1, _⟩ := hnb
  have n2 : n ≤ 281474976800000 := by omega
  have n3 : -40000 ≤ n := by omega
  have hv1 := pk_i64s (high + 3000) (by omega) (by omega)
  have hv2 := pk_i64s (high - 100) (by omega) (by omega)
  have K1 := Lib.hid k1
  clear k1 n0 n1 hn
  go_enter Try.func30, Try.ntmps30
  go_wp2_with fail
  refine (K1.out _).mono ?_
  rintro e w1 ⟨rfl, rfl⟩
  go_wp2_with fail
  exact bodyPost_ret (v := .tuple #[.agg #[.bool true, .int .i64 (max high n), .int .i64 (-1)], .int .i64 n, .bool true]) (res_ctt Try.results30 rfl (run_loadVar_row (P := Try.prog) _ _ _ _ _ _ _ (Blk.new1 w _ _ _) Try.underlying37 rfl (by kernel_rfl)) rfl rfl) rfl ⟨rfl, Bel.push (Bel.push (Bel.refl w) _) _⟩
set_option maxRecDepth 100000 in
set_option maxHeartbeats 1600000 in
theorem Follow_jump0z (q0 : 0 ≤ q) (q1 : q ≤ 65535) (b0 : -9223372036854775808 ≤ high) (b1 : high ≤ 9223372036854775807) (c0 : -9223372036854775808 ≤ jump) (c1 : jump ≤ 9223372036854775807) (g : 0 ≤ high) (g2 : high ≤ 281474976710656) (g3 : -1 ≤ jump) (g4 : jump ≤ 65535) (h1 : Pk.near high q 65536 < 0) (hj : q = jump) (hh : high < 140737488355328) (hd0 : (q - high) % 65536 = 0) : Calls Try.prog 30 #[.agg #[.bool true, .int .i64 high, .int .i64 jump], .int .u16 q] w fun e w' => e = .returned (.tuple #[.agg #[.bool true, .int .i64 (high + 65536), .int .i64 (-1)], .int .i64 (high + 65536), .bool true]) ∧ Bel w w' := by
  have k1 := fun W => Extend_any high q W q0 q1 b0 b1
  obtain ⟨n, hn⟩ : ∃ n, n = Pk.near high q 65536 := ⟨_, rfl⟩
  rw [← hn] at k1 h1
  have hnb := Pk.near_bd16 high q (by omega)
  rw [← hn] at hnb
  obtain ⟨n0, n1, _⟩ := hnb
  have n2 : n ≤ 281474976800000 := by omega
  have n3 : -40000 ≤ n := by omega
  have hv1 := pk_i64s (high + 3000) (by omega) (by omega)
  have hv2 := pk_i64s (high - 100) (by omega) (by omega)
  have K1 := Lib.hid k1
  clear k1 n0 n1 hn
  obtain ⟨d, hd⟩ : ∃ d, d = (q - high) % 65536 := ⟨_, rfl⟩
  have hmk := i64_mask16 (q - high)
  rw [← hd] at hmk
  have d0 : 0 ≤ d := by omega
  have d1 : d ≤ 65535 := by omega
  rw [← hd] at hd0
  have e0 : (d == 0) = true := by rw [beq_iff_eq]; exact hd0
  clear hd hd0
  have ej : (q == jump) = true := by rw [beq_iff_eq]; exact hj
  clear hj
  go_enter Try.func30, Try.ntmps30
  go_wp2_with fail
  refine (K1.out _).mono ?_
  rintro e w1 ⟨rfl, rfl⟩
  go_wp2_with fail
  go_region
  go_wp2_with fail
  exact bodyPost_ret (v := .tuple #[.agg #[.bool true, .int .i64 (high + 65536), .int .i64 (-1)], .int .i64 (high + 65536), .bool true]) (res_ctt Try.results30 rfl (run_loadVar_row (P := Try.prog) _ _ _ _ _ _ _ (Blk.new1 w _ _ _).drew Try.underlying37 rfl (by kernel_rfl)) rfl rfl) rfl ⟨rfl, Bel.drew (Bel.push (Bel.push (Bel.refl w) _) _)⟩
set_option maxRecDepth 100000 in
set_option maxHeartbeats 1600000 in
theorem Follow_jump0g (q0 : 0 ≤ q) (q1 : q ≤ 65535) (b0 : -9223372036854775808 ≤ high) (b1 : high ≤ 9223372036854775807) (c0 : -9223372036854775808 ≤ jump) (c1 : jump ≤ 9223372036854775807) (g : 0 ≤ high) (g2 : high ≤ 281474976710656) (g3 : -1 ≤ jump) (g4 : jump ≤ 65535) (h1 : Pk.near high q 65536 < 0) (hj : q = jump) (hh : high < 140737488355328) (hd0 : ¬(q - high) % 65536 = 0) : Calls Try.prog 30 #[.agg #[.bool true, .int .i64 high, .int .i64 jump], .int .u16 q] w fun e w' => e = .returned (.tuple #[.agg #[.bool true, .int .i64 (high + ((q - high) % 65536)), .int .i64 (-1)], .int .i64 (high + ((q - high) % 65536)), .bool true]) ∧ Bel w w' := by
  have k1 := fun W => Extend_any high q W q0 q1 b0 b1
  obtain ⟨n, hn⟩ : ∃ n, n = Pk.near high q 65536 := ⟨_, rfl⟩
  rw [← hn] at k1 h1
  have hnb := Pk.near_bd16 high q (by omega)
  rw [← hn] at hnb
  obtain ⟨n0, n1, _⟩ := hnb
  have n2 : n ≤ 281474976800000 := by omega
  have n3 : -40000 ≤ n := by omega
  have hv1 := pk_i64s (high + 3000) (by omega) (by omega)
  have hv2 := pk_i64s (high - 100) (by omega) (by omega)
  have K1 := Lib.hid k1
  clear k1 n0 n1 hn
  obtain ⟨d, hd⟩ : ∃ d, d = (q - high) % 65536 := ⟨_, rfl⟩
  have hmk := i64_mask16 (q - high)
  rw [← hd] at hmk
  have d0 : 0 ≤ d := by omega
  have d1 : d ≤ 65535 := by omega
  simp only [← hd]
  rw [← hd] at hd0
  have e0 : (d == 0) = false := by rw [beq_eq_false_iff_ne]; exact hd0
  clear hd hd0
  have ej : (q == jump) = true := by rw [beq_iff_eq]; exact hj
  clear hj
  go_enter Try.func30, Try.ntmps30
  go_wp2_with fail
  refine (K1.out _).mono ?_
  rintro e w1 ⟨rfl, rfl⟩
  go_wp2_with fail
  go_region
  go_wp2_with fail
  exact bodyPost_ret (v := .tuple #[.agg #[.bool true, .int .i64 (high + d), .int .i64 (-1)], .int .i64 (high + d), .bool true]) (res_ctt Try.results30 rfl (run_loadVar_row (P := Try.prog) _ _ _ _ _ _ _ (Blk.new1 w _ _ _).drew Try.underlying37 rfl (by kernel_rfl)) rfl rfl) rfl ⟨rfl, Bel.drew (Bel.push (Bel.push (Bel.refl w) _) _)⟩
set_option maxRecDepth 100000 in
set_option maxHeartbeats 1600000 in
theorem Follow_no0n (q0 : 0 ≤ q) (q1 : q ≤ 65535) (b0 : -9223372036854775808 ≤ high) (b1 : high ≤ 9223372036854775807) (c0 : -9223372036854775808 ≤ jump) (c1 : jump ≤ 9223372036854775807) (g : 0 ≤ high) (g2 : high ≤ 281474976710656) (g3 : -1 ≤ jump) (g4 : jump ≤ 65535) (h1 : Pk.near high q 65536 < 0) (hj : ¬q = jump) : Calls Try.prog 30 #[.agg #[.bool true, .int .i64 high, .int .i64 jump], .int .u16 q] w fun e w' => e = .returned (.tuple #[.agg #[.bool true, .int .i64 high, .int .i64 ((q + 1) % 65536)], .int .i64 0, .bool false]) ∧ Bel w w' := by
  have k1 := fun W => Extend_any high q W q0 q1 b0 b1
  obtain ⟨n, hn⟩ : ∃ n, n = Pk.near high q 65536 := ⟨_, rfl⟩
  rw [← hn] at k1 h1
  have hnb := Pk.near_bd16 high q (by omega)
  rw [← hn] at hnb
  obtain ⟨n0, n1, _⟩ := hnb
  have n2 : n ≤ 281474976800000 := by omega
  have n3 : -40000 ≤ n := by omega
  have hv1 := pk_i64s (high + 3000) (by omega) (by omega)
  have hv2 := pk_i64s (high - 100) (by omega) (by omega)
  have K1 := Lib.hid k1
  clear k1 n0 n1 hn
  have ej : (q == jump) = false := by rw [beq_eq_false_iff_ne]; exact hj
  clear hj
  have hw : IntKind.u16.wrap (q + 1) = (q + 1) % 65536 := u16_wrap _
  go_enter Try.func30, Try.ntmps30
  go_wp2_with fail
  refine (K1.out _).mono ?_
  rintro e w1 ⟨rfl, rfl⟩
  go_wp2_with fail
  exact bodyPost_ret (v := .tuple #[.agg #[.bool true, .int .i64 high, .int .i64 ((q + 1) % 65536)], .int .i64 0, .bool false]) (res_ctt Try.results30 rfl (run_loadVar_row (P := Try.prog) _ _ _ _ _ _ _ (Blk.new1 w _ _ _) Try.underlying37 rfl (by kernel_rfl)) rfl rfl) rfl ⟨rfl, Bel.push (Bel.push (Bel.refl w) _) _⟩
set_option maxRecDepth 100000 in
set_option maxHeartbeats 1600000 in
theorem Follow_no0h (q0 : 0 ≤ q) (q1 : q ≤ 65535) (b0 : -9223372036854775808 ≤ high) (b1 : high ≤ 9223372036854775807) (c0 : -9223372036854775808 ≤ jump) (c1 : jump ≤ 9223372036854775807) (g : 0 ≤ high) (g2 : high ≤ 281474976710656) (g3 : -1 ≤ jump) (g4 : jump ≤ 65535) (h1 : Pk.near high q 65536 < 0) (hj : q = jump) (hh : 140737488355328 ≤ high) : Calls Try.prog 30 #[.agg #[.bool true, .int .i64 high, .int .i64 jump], .int .u16 q] w fun e w' => e = .returned (.tuple #[.agg #[.bool true, .int .i64 high, .int .i64 ((q + 1) % 65536)], .int .i64 0, .bool false]) ∧ Bel w w' := by
  have k1 := fun W => Extend_any high q W q0 q1 b0 b1
  obtain ⟨n, hn⟩ : ∃ n, n = Pk.near high q 65536 := ⟨_, rfl⟩
  rw [← hn] at k1 h1
  have hnb := Pk.near_bd16 high q (by omega)
  rw [← hn] at hnb
  obtain ⟨n0, n1, _⟩ := hnb
  have n2 : n ≤ 281474976800000 := by omega
  have n3 : -40000 ≤ n := by omega
  have hv1 := pk_i64s (high + 3000) (by omega) (by omega)
  have hv2 := pk_i64s (high - 100) (by omega) (by omega)
  have K1 := Lib.hid k1
  clear k1 n0 n1 hn
  have ej : (q == jump) = true := by rw [beq_iff_eq]; exact hj
  clear hj
  have hw : IntKind.u16.wrap (q + 1) = (q + 1) % 65536 := u16_wrap _
  go_enter Try.func30, Try.ntmps30
  go_wp2_with fail
  refine (K1.out _).mono ?_
  rintro e w1 ⟨rfl, rfl⟩
  go_wp2_with fail
  exact bodyPost_ret (v := .tuple #[.agg #[.bool true, .int .i64 high, .int .i64 ((q + 1) % 65536)], .int .i64 0, .bool false]) (res_ctt Try.results30 rfl (run_loadVar_row (P := Try.prog) _ _ _ _ _ _ _ (Blk.new1 w _ _ _) Try.underlying37 rfl (by kernel_rfl)) rfl rfl) rfl ⟨rfl, Bel.push (Bel.push (Bel.refl w) _) _⟩
set_option maxRecDepth 100000 in
set_option maxHeartbeats 1600000 in
theorem Follow_jump1z (q0 : 0 ≤ q) (q1 : q ≤ 65535) (b0 : -9223372036854775808 ≤ high) (b1 : high ≤ 9223372036854775807) (c0 : -9223372036854775808 ≤ jump) (c1 : jump ≤ 9223372036854775807) (g : 0 ≤ high) (g2 : high ≤ 281474976710656) (g3 : -1 ≤ jump) (g4 : jump ≤ 65535) (h1 : 0 ≤ Pk.near high q 65536) (h2 : high + 3000 < Pk.near high q 65536) (hj : q = jump) (hh : high < 140737488355328) (hd0 : (q - high) % 65536 = 0) : Calls Try.prog 30 #[.agg #[.bool true, .int .i64 high, .int .i64 jump], .int .u16 q] w fun e w' => e = .returned (.tuple #[.agg #[.bool true, .int .i64 (high + 65536), .int .i64 (-1)], .int .i64 (high + 65536), .bool true]) ∧ Bel w w' := by
  have k1 := fun W => Extend_any high q W q0 q1 b0 b1
  obtain ⟨n, hn⟩ : ∃ n, n = Pk.near high q 65536 := ⟨_, rfl⟩
  rw [← hn] at k1 h1 h2
  have hnb := Pk.near_bd16 high q (by omega)
  rw [← hn] at hnb
  obtain ⟨n0, n1, _⟩ := hnb
  have n2 : n ≤ 281474976800000 := by omega
  have n3 : -40000 ≤ n := by omega
  have hv1 := pk_i64s (high + 3000) (by omega) (by omega)
  have hv2 := pk_i64s (high - 100) (by omega) (by omega)
  have K1 := Lib.hid k1
  clear k1 n0 n1 hn
  obtain ⟨d, hd⟩ : ∃ d, d = (q - high) % 65536 := ⟨_, rfl⟩
  have hmk := i64_mask16 (q - high)
  rw [← hd] at hmk
  have d0 : 0 ≤ d := by omega
  have d1 : d ≤ 65535 := by omega
  rw [← hd] at hd0
  have e0 : (d == 0) = true := by rw [beq_iff_eq]; exact hd0
  clear hd hd0
  have ej : (q == jump) = true := by rw [beq_iff_eq]; exact hj
  clear hj
  go_enter Try.func30, Try.ntmps30
  go_wp2_with fail
  refine (K1.out _).mono ?_
  rintro e w1 ⟨rfl, rfl⟩
  go_wp2_with fail
  go_region
  go_wp2_with fail
  exact bodyPost_ret (v := .tuple #[.agg #[.bool true, .int .i64 (high + 65536), .int .i64 (-1)], .int .i64 (high + 65536), .bool true]) (res_ctt Try.results30 rfl (run_loadVar_row (P := Try.prog) _ _ _ _ _ _ _ (Blk.new1 w _ _ _).drew Try.underlying37 rfl (by kernel_rfl)) rfl rfl) rfl ⟨rfl, Bel.drew (Bel.push (Bel.push (Bel.refl w) _) _)⟩
set_option maxRecDepth 100000 in
set_option maxHeartbeats 1600000 in
theorem Follow_jump1g (q0 : 0 ≤ q) (q1 : q ≤ 65535) (b0 : -9223372036854775808 ≤ high) (b1 : high ≤ 9223372036854775807) (c0 : -9223372036854775808 ≤ jump) (c1 : jump ≤ 9223372036854775807) (g : 0 ≤ high) (g2 : high ≤ 281474976710656) (g3 : -1 ≤ jump) (g4 : jump ≤ 65535) (h1 : 0 ≤ Pk.near high q 65536) (h2 : high + 3000 < Pk.near high q 65536) (hj : q = jump) (hh : high < 140737488355328) (hd0 : ¬(q - high) % 65536 = 0) : Calls Try.prog 30 #[.agg #[.bool true, .int .i64 high, .int .i64 jump], .int .u16 q] w fun e w' => e = .returned (.tuple #[.agg #[.bool true, .int .i64 (high + ((q - high) % 65536)), .int .i64 (-1)], .int .i64 (high + ((q - high) % 65536)), .bool true]) ∧ Bel w w' := by
  have k1 := fun W => Extend_any high q W q0 q1 b0 b1
  obtain ⟨n, hn⟩ : ∃ n, n = Pk.near high q 65536 := ⟨_, rfl⟩
  rw [← hn] at k1 h1 h2
  have hnb := Pk.near_bd16 high q (by omega)
  rw [← hn] at hnb
  obtain ⟨n0, n1, _⟩ := hnb
  have n2 : n ≤ 281474976800000 := by omega
  have n3 : -40000 ≤ n := by omega
  have hv1 := pk_i64s (high + 3000) (by omega) (by omega)
  have hv2 := pk_i64s (high - 100) (by omega) (by omega)
  have K1 := Lib.hid k1
  clear k1 n0 n1 hn
  obtain ⟨d, hd⟩ : ∃ d, d = (q - high) % 65536 := ⟨_, rfl⟩
  have hmk := i64_mask16 (q - high)
  rw [← hd] at hmk
  have d0 : 0 ≤ d := by omega
  have d1 : d ≤ 65535 := by omega
  simp only [← hd]
  rw [← hd] at hd0
  have e0 : (d == 0) = false := by rw [beq_eq_false_iff_ne]; exact hd0
  clear hd hd0
  have ej : (q == jump) = true := by rw [beq_iff_eq]; exact hj
  clear hj
  go_enter Try.func30, Try.ntmps30
  go_wp2_with fail
  refine (K1.out _).mono ?_
  rintro e w1 ⟨rfl, rfl⟩
  go_wp2_with fail
  go_region
  go_wp2_with fail
  exact bodyPost_ret (v := .tuple #[.agg #[.bool true, .int .i64 (high + d), .int .i64 (-1)], .int .i64 (high + d), .bool true]) (res_ctt Try.results30 rfl (run_loadVar_row (P := Try.prog) _ _ _ _ _ _ _ (Blk.new1 w _ _ _).drew Try.underlying37 rfl (by kernel_rfl)) rfl rfl) rfl ⟨rfl, Bel.drew (Bel.push (Bel.push (Bel.refl w) _) _)⟩
set_option maxRecDepth 100000 in
set_option maxHeartbeats 1600000 in
theorem Follow_no1n (q0 : 0 ≤ q) (q1 : q ≤ 65535) (b0 : -9223372036854775808 ≤ high) (b1 : high ≤ 9223372036854775807) (c0 : -9223372036854775808 ≤ jump) (c1 : jump ≤ 9223372036854775807) (g : 0 ≤ high) (g2 : high ≤ 281474976710656) (g3 : -1 ≤ jump) (g4 : jump ≤ 65535) (h1 : 0 ≤ Pk.near high q 65536) (h2 : high + 3000 < Pk.near high q 65536) (hj : ¬q = jump) : Calls Try.prog 30 #[.agg #[.bool true, .int .i64 high, .int .i64 jump], .int .u16 q] w fun e w' => e = .returned (.tuple #[.agg #[.bool true, .int .i64 high, .int .i64 ((q + 1) % 65536)], .int .i64 0, .bool false]) ∧ Bel w w' := by
  have k1 := fun W => Extend_any high q W q0 q1 b0 b1
  obtain ⟨n, hn⟩ : ∃ n, n = Pk.near high q 65536 := ⟨_, rfl⟩
  rw [← hn] at k1 h1 h2
  have hnb := Pk.near_bd16 high q (by omega)
  rw [← hn] at hnb
  obtain ⟨n0, n1, _⟩ := hnb
  have n2 : n ≤ 281474976800000 := by omega
  have n3 : -40000 ≤ n := by omega
  have hv1 := pk_i64s (high + 3000) (by omega) (by omega)
  have hv2 := pk_i64s (high - 100) (by omega) (by omega)
  have K1 := Lib.hid k1
  clear k1 n0 n1 hn
  have ej : (q == jump) = false := by rw [beq_eq_false_iff_ne]; exact hj
  clear hj
  have hw : IntKind.u16.wrap (q + 1) = (q + 1) % 65536 := u16_wrap _
  go_enter Try.func30, Try.ntmps30
  go_wp2_with fail
  refine (K1.out _).mono ?_
  rintro e w1 ⟨rfl, rfl⟩
  go_wp2_with fail
  exact bodyPost_ret (v := .tuple #[.agg #[.bool true, .int .i64 high, .int .i64 ((q + 1) % 65536)], .int .i64 0, .bool false]) (res_ctt Try.results30 rfl (run_loadVar_row (P := Try.prog) _ _ _ _ _ _ _ (Blk.new1 w _ _ _) Try.underlying37 rfl (by kernel_rfl)) rfl rfl) rfl ⟨rfl, Bel.push (Bel.push (Bel.refl w) _) _⟩
set_option maxRecDepth 100000 in
set_option maxHeartbeats 1600000 in
theorem Follow_no1h (q0 : 0 ≤ q) (q1 : q ≤ 65535) (b0 : -9223372036854775808 ≤ high) (b1 : high ≤ 9223372036854775807) (c0 : -9223372036854775808 ≤ jump) (c1 : jump ≤ 9223372036854775807) (g : 0 ≤ high) (g2 : high ≤ 281474976710656) (g3 : -1 ≤ jump) (g4 : jump ≤ 65535) (h1 : 0 ≤ Pk.near high q 65536) (h2 : high + 3000 < Pk.near high q 65536) (hj : q = jump) (hh : 140737488355328 ≤ high) : Calls Try.prog 30 #[.agg #[.bool true, .int .i64 high, .int .i64 jump], .int .u16 q] w fun e w' => e = .returned (.tuple #[.agg #[.bool true, .int .i64 high, .int .i64 ((q + 1) % 65536)], .int .i64 0, .bool false]) ∧ Bel w w' := by
  have k1 := fun W => Extend_any high q W q0 q1 b0 b1
  obtain ⟨n, hn⟩ : ∃ n, n = Pk.near high q 65536 := ⟨_, rfl⟩
  rw [← hn] at k1 h1 h2
  have hnb := Pk.near_bd16 high q (by omega)
  rw [← hn] at hnb
  obtain ⟨n0, n1, _⟩ := hnb
  have n2 : n ≤ 281474976800000 := by omega
  have n3 : -40000 ≤ n := by omega
  have hv1 := pk_i64s (high + 3000) (by omega) (by omega)
  have hv2 := pk_i64s (high - 100) (by omega) (by omega)
  have K1 := Lib.hid k1
  clear k1 n0 n1 hn
  have ej : (q == jump) = true := by rw [beq_iff_eq]; exact hj
  clear hj
  have hw : IntKind.u16.wrap (q + 1) = (q + 1) % 65536 := u16_wrap _
  go_enter Try.func30, Try.ntmps30
  go_wp2_with fail
  refine (K1.out _).mono ?_
  rintro e w1 ⟨rfl, rfl⟩
  go_wp2_with fail
  exact bodyPost_ret (v := .tuple #[.agg #[.bool true, .int .i64 high, .int .i64 ((q + 1) % 65536)], .int .i64 0, .bool false]) (res_ctt Try.results30 rfl (run_loadVar_row (P := Try.prog) _ _ _ _ _ _ _ (Blk.new1 w _ _ _) Try.underlying37 rfl (by kernel_rfl)) rfl rfl) rfl ⟨rfl, Bel.push (Bel.push (Bel.refl w) _) _⟩
set_option maxRecDepth 100000 in
set_option maxHeartbeats 1600000 in
theorem Follow_jump2z (q0 : 0 ≤ q) (q1 : q ≤ 65535) (b0 : -9223372036854775808 ≤ high) (b1 : high ≤ 9223372036854775807) (c0 : -9223372036854775808 ≤ jump) (c1 : jump ≤ 9223372036854775807) (g : 0 ≤ high) (g2 : high ≤ 281474976710656) (g3 : -1 ≤ jump) (g4 : jump ≤ 65535) (h1 : 0 ≤ Pk.near high q 65536) (h2 : Pk.near high q 65536 ≤ high + 3000) (h3 : Pk.near high q 65536 < high - 100) (hj : q = jump) (hh : high < 140737488355328) (hd0 : (q - high) % 65536 = 0) : Calls Try.prog 30 #[.agg #[.bool true, .int .i64 high, .int .i64 jump], .int .u16 q] w fun e w' => e = .returned (.tuple #[.agg #[.bool true, .int .i64 (high + 65536), .int .i64 (-1)], .int .i64 (high + 65536), .bool true]) ∧ Bel w w' := by
  have k1 := fun W => Extend_any high q W q0 q1 b0 b1
  obtain ⟨n, hn⟩ : ∃ n, n = Pk.near high q 65536 := ⟨_, rfl⟩
  rw [← hn] at k1 h1 h2 h3
  have hnb := Pk.near_bd16 high q (by omega)
  rw [← hn] at hnb
  obtain ⟨n0, n1, _⟩ := hnb
  have n2 : n ≤ 281474976800000 := by omega
  have n3 : -40000 ≤ n := by omega
  have hv1 := pk_i64s (high + 3000) (by omega) (by omega)
  have hv2 := pk_i64s (high - 100) (by omega) (by omega)
  have K1 := Lib.hid k1
  clear k1 n0 n1 hn
  obtain ⟨d, hd⟩ : ∃ d, d = (q - high) % 65536 := ⟨_, rfl⟩
  have hmk := i64_mask16 (q - high)
  rw [← hd] at hmk
  have d0 : 0 ≤ d := by omega
  have d1 : d ≤ 65535 := by omega
  rw [← hd] at hd0
  have e0 : (d == 0) = true := by rw [beq_iff_eq]; exact hd0
  clear hd hd0
  have ej : (q == jump) = true := by rw [beq_iff_eq]; exact hj
  clear hj
  go_enter Try.func30, Try.ntmps30
  go_wp2_with fail
  refine (K1.out _).mono ?_
  rintro e w1 ⟨rfl, rfl⟩
  go_wp2_with fail
  go_region
  go_wp2_with fail
  exact bodyPost_ret (v := .tuple #[.agg #[.bool true, .int .i64 (high + 65536), .int .i64 (-1)], .int .i64 (high + 65536), .bool true]) (res_ctt Try.results30 rfl (run_loadVar_row (P := Try.prog) _ _ _ _ _ _ _ (Blk.new1 w _ _ _).drew Try.underlying37 rfl (by kernel_rfl)) rfl rfl) rfl ⟨rfl, Bel.drew (Bel.push (Bel.push (Bel.refl w) _) _)⟩
set_option maxRecDepth 100000 in
set_option maxHeartbeats 1600000 in
theorem Follow_jump2g (q0 : 0 ≤ q) (q1 : q ≤ 65535) (b0 : -9223372036854775808 ≤ high) (b1 : high ≤ 9223372036854775807) (c0 : -9223372036854775808 ≤ jump) (c1 : jump ≤ 9223372036854775807) (g : 0 ≤ high) (g2 : high ≤ 281474976710656) (g3 : -1 ≤ jump) (g4 : jump ≤ 65535) (h1 : 0 ≤ Pk.near high q 65536) (h2 : Pk.near high q 65536 ≤ high + 3000) (h3 : Pk.near high q 65536 < high - 100) (hj : q = jump) (hh : high < 140737488355328) (hd0 : ¬(q - high) % 65536 = 0) : Calls Try.prog 30 #[.agg #[.bool true, .int .i64 high, .int .i64 jump], .int .u16 q] w fun e w' => e = .returned (.tuple #[.agg #[.bool true, .int .i64 (high + ((q - high) % 65536)), .int .i64 (-1)], .int .i64 (high + ((q - high) % 65536)), .bool true]) ∧ Bel w w' := by
  have k1 := fun W => Extend_any high q W q0 q1 b0 b1
  obtain ⟨n, hn⟩ : ∃ n, n = Pk.near high q 65536 := ⟨_, rfl⟩
  rw [← hn] at k1 h1 h2 h3
  have hnb := Pk.near_bd16 high q (by omega)
  rw [← hn] at hnb
  obtain ⟨n0, n1, _⟩ := hnb
  have n2 : n ≤ 281474976800000 := by omega
  have n3 : -40000 ≤ n := by omega
  have hv1 := pk_i64s (high + 3000) (by omega) (by omega)
  have hv2 := pk_i64s (high - 100) (by omega) (by omega)
  have K1 := Lib.hid k1
  clear k1 n0 n1 hn
  obtain ⟨d, hd⟩ : ∃ d, d = (q - high) % 65536 := ⟨_, rfl⟩
  have hmk := i64_mask16 (q - high)
  rw [← hd] at hmk
  have d0 : 0 ≤ d := by omega
  have d1 : d ≤ 65535 := by omega
  simp only [← hd]
  rw [← hd] at hd0
  have e0 : (d == 0) = false := by rw [beq_eq_false_iff_ne]; exact hd0
  clear hd hd0
  have ej : (q == jump) = true := by rw [beq_iff_eq]; exact hj
  clear hj
  go_enter Try.func30, Try.ntmps30
  go_wp2_with fail
  refine (K1.out _).mono ?_
  rintro e w1 ⟨rfl, rfl⟩
  go_wp2_with fail
  go_region
  go_wp2_with fail
  exact bodyPost_ret (v := .tuple #[.agg #[.bool true, .int .i64 (high + d), .int .i64 (-1)], .int .i64 (high + d), .bool true]) (res_ctt Try.results30 rfl (run_loadVar_row (P := Try.prog) _ _ _ _ _ _ _ (Blk.new1 w _ _ _).drew Try.underlying37 rfl (by kernel_rfl)) rfl rfl) rfl ⟨rfl, Bel.drew (Bel.push (Bel.push (Bel.refl w) _) _)⟩
set_option maxRecDepth 100000 in
set_option maxHeartbeats 1600000 in
theorem Follow_no2n (q0 : 0 ≤ q) (q1 : q ≤ 65535) (b0 : -9223372036854775808 ≤ high) (b1 : high ≤ 9223372036854775807) (c0 : -9223372036854775808 ≤ jump) (c1 : jump ≤ 9223372036854775807) (g : 0 ≤ high) (g2 : high ≤ 281474976710656) (g3 : -1 ≤ jump) (g4 : jump ≤ 65535) (h1 : 0 ≤ Pk.near high q 65536) (h2 : Pk.near high q 65536 ≤ high + 3000) (h3 : Pk.near high q 65536 < high - 100) (hj : ¬q = jump) : Calls Try.prog 30 #[.agg #[.bool true, .int .i64 high, .int .i64 jump], .int .u16 q] w fun e w' => e = .returned (.tuple #[.agg #[.bool true, .int .i64 high, .int .i64 ((q + 1) % 65536)], .int .i64 0, .bool false]) ∧ Bel w w' := by
  have k1 := fun W => Extend_any high q W q0 q1 b0 b1
  obtain ⟨n, hn⟩ : ∃ n, n = Pk.near high q 65536 := ⟨_, rfl⟩
  rw [← hn] at k1 h1 h2 h3
  have hnb := Pk.near_bd16 high q (by omega)
  rw [← hn] at hnb
  obtain ⟨n0, n1, _⟩ := hnb
  have n2 : n ≤ 281474976800000 := by omega
  have n3 : -40000 ≤ n := by omega
  have hv1 := pk_i64s (high + 3000) (by omega) (by omega)
  have hv2 := pk_i64s (high - 100) (by omega) (by omega)
  have K1 := Lib.hid k1
  clear k1 n0 n1 hn
  have ej : (q == jump) = false := by rw [beq_eq_false_iff_ne]; exact hj
  clear hj
  have hw : IntKind.u16.wrap (q + 1) = (q + 1) % 65536 := u16_wrap _
  go_enter Try.func30, Try.ntmps30
  go_wp2_with fail
  refine (K1.out _).mono ?_
  rintro e w1 ⟨rfl, rfl⟩
  go_wp2_with fail
  exact bodyPost_ret (v := .tuple #[.agg #[.bool true, .int .i64 high, .int .i64 ((q + 1) % 65536)], .int .i64 0, .bool false]) (res_ctt Try.results30 rfl (run_loadVar_row (P := Try.prog) _ _ _ _ _ _ _ (Blk.new1 w _ _ _) Try.underlying37 rfl (by kernel_rfl)) rfl rfl) rfl ⟨rfl, Bel.push (Bel.push (Bel.refl w) _) _⟩
set_option maxRecDepth 100000 in
set_option maxHeartbeats 1600000 in
theorem Follow_no2h (q0 : 0 ≤ q) (q1 : q ≤ 65535) (b0 : -9223372036854775808 ≤ high) (b1 : high ≤ 9223372036854775807) (c0 : -9223372036854775808 ≤ jump) (c1 : jump ≤ 9223372036854775807) (g : 0 ≤ high) (g2 : high ≤ 281474976710656) (g3 : -1 ≤ jump) (g4 : jump ≤ 65535) (h1 : 0 ≤ Pk.near high q 65536) (h2 : Pk.near high q 65536 ≤ high + 3000) (h3 : Pk.near high q 65536 < high - 100) (hj : q = jump) (hh : 140737488355328 ≤ high) : Calls Try.prog 30 #[.agg #[.bool true, .int .i64 high, .int .i64 jump], .int .u16 q] w fun e w' => e = .returned (.tuple #[.agg #[.bool true, .int .i64 high, .int .i64 ((q + 1) % 65536)], .int .i64 0, .bool false]) ∧ Bel w w' := by
  have k1 := fun W => Extend_any high q W q0 q1 b0 b1
  obtain ⟨n, hn⟩ : ∃ n, n = Pk.near high q 65536 := ⟨_, rfl⟩
  rw [← hn] at k1 h1 h2 h3
  have hnb := Pk.near_bd16 high q (by omega)
  rw [← hn] at hnb
  obtain ⟨n0, n1, _⟩ := hnb
  have n2 : n ≤ 281474976800000 := by omega
  have n3 : -40000 ≤ n := by omega
  have hv1 := pk_i64s (high + 3000) (by omega) (by omega)
  have hv2 := pk_i64s (high - 100) (by omega) (by omega)
  have K1 := Lib.hid k1
  clear k1 n0 n1 hn
  have ej : (q == jump) = true := by rw [beq_iff_eq]; exact hj
  clear hj
  have hw : IntKind.u16.wrap (q + 1) = (q + 1) % 65536 := u16_wrap _
  go_enter Try.func30, Try.ntmps30
  go_wp2_with fail
  refine (K1.out _).mono ?_
  rintro e w1 ⟨rfl, rfl⟩
  go_wp2_with fail
  exact bodyPost_ret (v := .tuple #[.agg #[.bool true, .int .i64 high, .int .i64 ((q + 1) % 65536)], .int .i64 0, .bool false]) (res_ctt Try.results30 rfl (run_loadVar_row (P := Try.prog) _ _ _ _ _ _ _ (Blk.new1 w _ _ _) Try.underlying37 rfl (by kernel_rfl)) rfl rfl) rfl ⟨rfl, Bel.push (Bel.push (Bel.refl w) _) _⟩
end
end Go.Proofs.Ytahbecinkciahaa
/- Layer 25: Follow of the reference. -/
namespace Go.Proofs.Ytahbecinkciahaa
open Go.RowKit
set_option linter.unusedVariables false
set_option linter.unusedSimpArgs false
attribute [local go_sem ↓] run_min_plain run_max_plain
attribute [local go_sem] setCell_drewN alloc_drewN
section
variable (high jump q : Int) (w : World)
end
end Go.Proofs.Ytahbecinkciahaa
/- Layer 25: Follow for every track. -/
namespace Go.Proofs.Ytahbecinkciahaa
open Go.RowKit
set_option linter.unusedVariables false
set_option linter.unusedSimpArgs false
attribute [local go_sem ↓] run_min_plain run_max_plain
attribute [local go_sem] setCell_drewN alloc_drewN
section
variable (on : Bool) (high jump q : Int) (w : World)
theorem Follow_any (q0 : 0 ≤ q) (q1 : q ≤ 65535) (b0 : -9223372036854775808 ≤ high) (b1 : high ≤ 9223372036854775807) (c0 : -9223372036854775808 ≤ jump) (c1 : jump ≤ 9223372036854775807) : Calls Try.prog 30 #[.agg #[.bool on, .int .i64 high, .int .i64 jump], .int .u16 q] w fun e w' => e = .returned (.tuple #[.agg (Pk.follow ⟨on, high, jump⟩ q).1.row.toArray, .int .i64 (Pk.follow ⟨on, high, jump⟩ q).2.1, .bool (Pk.follow ⟨on, high, jump⟩ q).2.2]) ∧ Bel w w' := by
  unfold Pk.follow
  by_cases hok : Pk.Tr.ok ⟨on, high, jump⟩
  rotate_left
  · rw [if_pos hok]
    have hn : ¬(0 ≤ high ∧ high ≤ 281474976710656 ∧ -1 ≤ jump ∧ jump ≤ 65535) := hok
    by_cases h1 : high < 0
    · exact Follow_bad0 high jump q w q0 q1 b0 b1 c0 c1 on h1
    by_cases h2 : 281474976710656 < high
    · exact Follow_bad1 high jump q w q0 q1 b0 b1 c0 c1 on (by omega) h2
    by_cases h3 : jump < -1
    · exact Follow_bad2 high jump q w q0 q1 b0 b1 c0 c1 on (by omega) (by omega) h3
    · exact Follow_bad3 high jump q w q0 q1 b0 b1 c0 c1 on (by omega) (by omega) (by omega) (by omega)
  rw [if_neg (fun h => h hok)]
  obtain ⟨g, g2, g3, g4⟩ : 0 ≤ high ∧ high ≤ 281474976710656 ∧ -1 ≤ jump ∧ jump ≤ 65535 := hok
  cases on
  · rw [if_pos rfl]
    exact Follow_off high jump q w q0 q1 b0 b1 c0 c1 g g2 g3 g4
  rw [if_neg (by simp)]
  by_cases hin : 0 ≤ Pk.near high q 65536 ∧ Pk.near high q 65536 ≤ high + 3000 ∧ high - 100 ≤ Pk.near high q 65536
  · rw [if_pos hin]
    exact Follow_in high jump q w q0 q1 b0 b1 c0 c1 g g2 g3 g4 hin.1 hin.2.1 hin.2.2
  rw [if_neg hin]
  by_cases hj : q = jump ∧ high < 140737488355328
  · rw [if_pos hj]
    by_cases h1 : 0 ≤ Pk.near high q 65536
    · by_cases h2 : Pk.near high q 65536 ≤ high + 3000
      · by_cases hz : (q - high) % 65536 = 0
        · rw [show Pk.gap high q = 65536 by unfold Pk.gap; rw [if_pos hz]]
          exact Follow_jump2z high jump q w q0 q1 b0 b1 c0 c1 g g2 g3 g4 h1 h2 (by omega) hj.1 hj.2 hz
        · rw [show Pk.gap high q = (q - high) % 65536 by unfold Pk.gap; rw [if_neg hz]]
          exact Follow_jump2g high jump q w q0 q1 b0 b1 c0 c1 g g2 g3 g4 h1 h2 (by omega) hj.1 hj.2 hz
      · by_cases hz : (q - high) % 65536 = 0
        · rw [show Pk.gap high q = 65536 by unfold Pk.gap; rw [if_pos hz]]
          exact Follow_jump1z high jump q w q0 q1 b0 b1 c0 c1 g g2 g3 g4 h1 (by omega) hj.1 hj.2 hz
        · rw [show Pk.gap high q = (q - high) % 65536 by unfold Pk.gap; rw [if_neg hz]]
          exact Follow_jump1g high jump q w q0 q1 b0 b1 c0 c1 g g2 g3 g4 h1 (by omega) hj.1 hj.2 hz
    · by_cases hz : (q - high) % 65536 = 0
      · rw [show Pk.gap high q = 65536 by unfold Pk.gap; rw [if_pos hz]]
        exact Follow_jump0z high jump q w q0 q1 b0 b1 c0 c1 g g2 g3 g4 (by omega) hj.1 hj.2 hz
      · rw [show Pk.gap high q = (q - high) % 65536 by unfold Pk.gap; rw [if_neg hz]]
        exact Follow_jump0g high jump q w q0 q1 b0 b1 c0 c1 g g2 g3 g4 (by omega) hj.1 hj.2 hz
  · rw [if_neg hj]
    by_cases hq : q = jump
    · have hh : 140737488355328 ≤ high := by omega
      by_cases h1 : 0 ≤ Pk.near high q 65536
      · by_cases h2 : Pk.near high q 65536 ≤ high + 3000
        · exact Follow_no2h high jump q w q0 q1 b0 b1 c0 c1 g g2 g3 g4 h1 h2 (by omega) hq hh
        · exact Follow_no1h high jump q w q0 q1 b0 b1 c0 c1 g g2 g3 g4 h1 (by omega) hq hh
      · exact Follow_no0h high jump q w q0 q1 b0 b1 c0 c1 g g2 g3 g4 (by omega) hq hh
    · by_cases h1 : 0 ≤ Pk.near high q 65536
      · by_cases h2 : Pk.near high q 65536 ≤ high + 3000
        · exact Follow_no2n high jump q w q0 q1 b0 b1 c0 c1 g g2 g3 g4 h1 h2 (by omega) hq
        · exact Follow_no1n high jump q w q0 q1 b0 b1 c0 c1 g g2 g3 g4 h1 (by omega) hq
      · exact Follow_no0n high jump q w q0 q1 b0 b1 c0 c1 g g2 g3 g4 (by omega) hq
end
end Go.Proofs.Ytahbecinkciahaa
/- Layer 32: Receive, the packet is counted. -/
namespace Go.Proofs.Ytahbecinkciahaa
open Go.RowKit
set_option linter.unusedVariables false
set_option linter.unusedSimpArgs false
attribute [local go_sem ↓] run_min_plain run_max_plain
attribute [local go_sem] setCell_drewN alloc_drewN
set_option maxRecDepth 100000 in
set_option maxHeartbeats 12800000 in
theorem rcB_wp {w W : World} {p : Sb.Pt} {A : Option Addr} {l : List TW} {n c : Nat} {x : Rx} {now : Int} (C : RC w p A l n c x now) (S : RS w W p A n c x) {R : Ending → World → Prop} (gt : Nat) (F : Pk.Tr) (fn : Int) (hF : Pk.follow p.tk x.sq = (F, fn, true)) (hk0 : -9223372036854775808 ≤ p.tk.high) (hk1 : p.tk.high ≤ 9223372036854775807) (hk2 : -9223372036854775808 ≤ p.tk.jump) (hk3 : p.tk.jump ≤ 9223372036854775807)
    (h : ∀ (W : World) (a : Act), RS w W { p with tk := F } A n c x → FrC w.heap.size now gt p.tk.on fn a → firstWp Try.prog rcC_code (bodyPost Try.prog Try.f12 R) a W) (a : Act) (ha : FrB w.heap.size now gt true a) : firstWp Try.prog rcB_code (bodyPost Try.prog Try.f12 R) a W := by
  obtain ⟨s, rfl⟩ := ha
  have k3 : ∀ W, Calls Try.prog 30 #[.agg #[.bool p.tk.on, .int .i64 p.tk.high, .int .i64 p.tk.jump], .int .u16 x.sq] W fun e w' => e = .returned (.tuple #[.agg #[.bool F.on, .int .i64 F.high, .int .i64 F.jump], .int .i64 fn, .bool true]) ∧ Bel W w' := fun W => by
    have h := Follow_any p.tk.on p.tk.high p.tk.jump x.sq W C.q0 C.q1 hk0 hk1 hk2 hk3
    have e : (⟨p.tk.on, p.tk.high, p.tk.jump⟩ : Pk.Tr) = p.tk := rfl
    rw [e, hF] at h
    exact h
  replace k3 := Lib.hid k3
  clear hF
  have x2 := S.c2
  have x28 := S.b0.tk.1
  refine first_c ?_
  intro _ _ _ _
  go_upto_region 14 with fail
  go_wp2_with (first | (refine wpList_load_part rfl 37 (.tmp 71) rfl (w.heap.size) 28 rfl 43 (PL p A n c) S.b0 3 _ Try.underlying37 info_trk (show 28 + 3 ≤ 48 by decide) (#[.bool p.tk.on, .int .i64 p.tk.high, .int .i64 p.tk.jump]) (by rfl) rfl ?_) | fail)
  refine (k3.out _).mono ?_
  rintro e w4 ⟨rfl, hb1⟩
  replace S := S.later hb1
  clear hb1 k3 x2 x28
  have BT := Lib.hid (Blk.new w4 37 #[.bool F.on, .int .i64 F.high, .int .i64 F.jump])
  obtain ⟨g3, hg3⟩ : ∃ g, g = w4.heap.size := ⟨_, rfl⟩
  replace S := S.push (.cells #[.bool F.on, .int .i64 F.high, .int .i64 F.jump] 37)
  obtain ⟨W5, hW5⟩ : ∃ W, W = w4.alloc (Obj.cells #[.bool F.on, .int .i64 F.high, .int .i64 F.jump] 37) := ⟨_, rfl⟩
  rw [← hg3, ← hW5] at BT
  go_upto_region 15 with fail
  rw [← hg3]
  rw [← hW5] at S ⊢
  clear hW5 hg3
  go_upto_region 16 with (first | (refine wpList_load_part rfl 37 (.tmp 14) rfl (g3) 0 rfl 37 ([.bool F.on, .int .i64 F.high, .int .i64 F.jump]) BT.out 3 _ Try.underlying37 info_trk (show 0 + 3 ≤ 3 by decide) (#[.bool F.on, .int .i64 F.high, .int .i64 F.jump]) (by rfl) rfl ?_) | (refine wpList_store_part rfl 37 (.tmp 80) (.tmp 79) rfl (w.heap.size) 28 rfl 43 (PL p A n c) S.b0 ([.bool F.on, .int .i64 F.high, .int .i64 F.jump]) rfl info_trk (show 28 + 3 ≤ 48 by decide) rfl (PL { p with tk := F } A n c) rfl ?_; intro WF BF OF) | fail)
  replace S := S.over OF BF
  clear BF OF BT
  go_upto_region 18 with fail
  refine first2 (by assumption) (by assumption) ?_
  exact h _ _ S FrC.mk
end Go.Proofs.Ytahbecinkciahaa
/- Layer 26: which statistics are valid; small numbers; round trips. -/
namespace Go.Proofs.Ytahbecinkciahaa
open Go.RowKit
set_option linter.unusedVariables false
set_option linter.unusedSimpArgs false
theorem ret_bool {a b : Bool} (h : a = b) : Ending.returned (.bool a) = .returned (.bool b) := by rw [h]
section
variable (lo hi : Int) (A : Option Addr) (xs : List Int) (c n : Nat) (w : World)
set_option maxRecDepth 100000 in
set_option maxHeartbeats 800000 in
theorem valid1_any (hn : xs.length = n) (hA : IntsAt w w.heap.size .i64 A xs) (hl : n ≤ 100) :
    Calls Try.prog 76 #[.int .i64 lo, .int .i64 hi, .slice A n c] w fun e w' => e = .returned (.bool (Rep.all lo hi xs)) ∧ w = w' := by
  subst hn
  have HA := Lib.hid hA
  clear hA
  go_enter Try.func76, Try.ntmps76
  go_wp2
  go_loop [11] (fun i => ∃ k : Nat, k ≤ xs.length ∧ i = .int .i64 k ∧ Hid (Rep.all lo hi (xs.take k) = true)) (fun i => xs.length - (intOf i).toNat)
  case atStart => exact ⟨0, Nat.zero_le _, rfl, Lib.hid rfl⟩
  case round =>
    obtain ⟨k, hk, rfl, HK⟩ := hrel
    by_cases hlt : k < xs.length
    · obtain ⟨b, off, rfl, hbB, hcell⟩ := HA.out (by omega)
      have hc := hcell k hlt
      have hst := Rep.all_take lo hi xs k hlt
      rw [HK.out, Bool.true_and] at hst
      have HS := Lib.hid hst
      have HF := Lib.hid (Rep.all_false lo hi xs k hlt)
      clear hcell hst
      have hi0 : (0 : Int) ≤ (k : Int) := by omega
      have hi1 : (k : Int) < (xs.length : Int) := by omega
      generalize xs.getD k 0 = x at *
      by_cases h1 : x < lo
      · have t1 : decide (x < lo) = true := by simpa using h1
        have HB := Lib.hid (HF.out (by simp [Rep.inB]; omega))
        go_wp2
        go_ret
        exact ⟨ret_bool HB.out.symm, rfl⟩
      · have t1 : decide (x < lo) = false := by simpa using h1
        by_cases h2 : hi < x
        · have t2 : decide (hi < x) = true := by simpa using h2
          have HB := Lib.hid (HF.out (by simp [Rep.inB]; omega))
          go_wp2
          go_ret
          exact ⟨ret_bool HB.out.symm, rfl⟩
        · have t2 : decide (hi < x) = false := by simpa using h2
          have hin : Rep.inB lo hi x = true := by rw [Rep.inB_iff]; omega
          have HI := Lib.hid hin
          clear hin
          go_wp2
          go_round
          case rel => exact ⟨k + 1, by omega, by go_num, Lib.hid (by rw [HS.out, HI.out])⟩
          case measure => simp [intOf]; omega
    · obtain rfl : k = xs.length := by omega
      have hf := HK.out
      rw [List.take_length] at hf
      have HF := Lib.hid hf
      clear hf
      go_wp2
      go_ret
      exact ⟨ret_bool HF.out.symm, rfl⟩
end
section
variable (x y z : Int) (w : World)
theorem small_any : Calls Try.prog 53 #[.int .i64 x] w fun e w' => e = .returned (.bool (Rep.small x)) ∧ w = w' := by
  have h : Rep.small x = (decide (-281474976710656 ≤ x) && decide (x ≤ 281474976710656)) := rfl
  rw [h]
  cases h1 : decide (-281474976710656 ≤ x) <;> cases h2 : decide (x ≤ 281474976710656)
  all_goals
    clear h
    go_enter Try.func53, Try.ntmps53
    go_wp2
    go_ret
    exact ⟨rfl, rfl⟩
end
end Go.Proofs.Ytahbecinkciahaa
/- Layer 26: which statistics are valid, in the program and in the reference. -/
namespace Go.Proofs.Ytahbecinkciahaa
open Go.RowKit
set_option linter.unusedVariables false
set_option linter.unusedSimpArgs false
theorem IntsAt.new_at (w : World) (e : TypeId) (k : IntKind) (zs : List Int) (cs : List Value) (h : cs = zs.map (Value.int k)) (g : Nat) (hg : w.heap.size = g) : IntsAt (w.alloc (.cells cs.toArray e)) (w.alloc (.cells cs.toArray e)).heap.size k (some ⟨g, 0, none⟩) zs := by
  subst hg
  exact IntsAt.new w e k zs cs h
section
variable (s0 : Bool) (sb sh sr sx sy st sj : Int) (w : World)
theorem Rep.okS_bd (h : Rep.okS ⟨s0, sb, sh, sr, sx, sy, st, sj⟩ = true) : -1125899906842624 ≤ sb ∧ sb ≤ 1125899906842624 ∧ -1125899906842624 ≤ sh ∧ sh ≤ 1125899906842624 ∧ -1125899906842624 ≤ st ∧ st ≤ 1125899906842624 ∧ sb ≤ sh ∧ 0 ≤ sr ∧ sr ≤ 1125899906842624 ∧ 0 ≤ sx ∧ sx ≤ 1125899906842624 ∧ 0 ≤ sy ∧ sy ≤ 1125899906842624 ∧ 0 ≤ sj ∧ sj ≤ 72057594037927936 := by
  rw [Rep.okS_iff] at h
  simp only at h
  omega
set_option maxRecDepth 100000 in
set_option maxHeartbeats 800000 in
theorem rep_valid : Calls Try.prog 52 #[.agg #[.bool s0, .int .i64 sb, .int .i64 sh, .int .i64 sr, .int .i64 sx, .int .i64 sy, .int .i64 st, .int .i64 sj]] w fun e w' => e = .returned (.bool (Rep.okS ⟨s0, sb, sh, sr, sx, sy, st, sj⟩)) ∧ Below w.heap.size w w' := by
  have h : Rep.okS ⟨s0, sb, sh, sr, sx, sy, st, sj⟩ = (Rep.all (-1125899906842624) 1125899906842624 [sb, sh, st] && decide (sb ≤ sh) && Rep.all 0 1125899906842624 [sr, sx, sy] && Rep.all 0 72057594037927936 [sj]) := rfl
  rw [h]
  clear h
  have k1 := fun A c W h => valid1_any (-1125899906842624) 1125899906842624 A [sb, sh, st] c 3 W rfl h (by omega)
  have k2 := fun A c W h => valid1_any 0 1125899906842624 A [sr, sx, sy] c 3 W rfl h (by omega)
  have k3 := fun A c W h => valid1_any 0 72057594037927936 A [sj] c 1 W rfl h (by omega)
  generalize Rep.all (-1125899906842624) 1125899906842624 [sb, sh, st] = b1 at *
  generalize Rep.all 0 1125899906842624 [sr, sx, sy] = b3 at *
  generalize Rep.all 0 72057594037927936 [sj] = b4 at *
  have K1 := Lib.hid k1
  have K2 := Lib.hid k2
  have K3 := Lib.hid k3
  clear k1 k2 k3
  cases b1
  · go_enter Try.func52, Try.ntmps52
    go_wp2_with fail
    refine (K1.out _ _ _ (IntsAt.new_at (w.alloc (.cells #[.bool s0, .int .i64 sb, .int .i64 sh, .int .i64 sr, .int .i64 sx, .int .i64 sy, .int .i64 st, .int .i64 sj] 39)) 2 .i64 [sb, sh, st] [.int .i64 sb, .int .i64 sh, .int .i64 st] rfl _ (by rw [size_alloc1]))).mono ?_
    rintro e w1 ⟨rfl, rfl⟩
    go_wp2
    go_ret
    exact ⟨rfl, Bel.push (Bel.push (Bel.refl w) _) _⟩
  · cases hb : decide (sb ≤ sh)
    · go_enter Try.func52, Try.ntmps52
      go_wp2_with fail
      refine (K1.out _ _ _ (IntsAt.new_at (w.alloc (.cells #[.bool s0, .int .i64 sb, .int .i64 sh, .int .i64 sr, .int .i64 sx, .int .i64 sy, .int .i64 st, .int .i64 sj] 39)) 2 .i64 [sb, sh, st] [.int .i64 sb, .int .i64 sh, .int .i64 st] rfl _ (by rw [size_alloc1]))).mono ?_
      rintro e w1 ⟨rfl, rfl⟩
      go_wp2
      go_ret
      exact ⟨rfl, Bel.push (Bel.push (Bel.refl w) _) _⟩
    · cases b3
      · go_enter Try.func52, Try.ntmps52
        go_wp2_with fail
        refine (K1.out _ _ _ (IntsAt.new_at (w.alloc (.cells #[.bool s0, .int .i64 sb, .int .i64 sh, .int .i64 sr, .int .i64 sx, .int .i64 sy, .int .i64 st, .int .i64 sj] 39)) 2 .i64 [sb, sh, st] [.int .i64 sb, .int .i64 sh, .int .i64 st] rfl _ (by rw [size_alloc1]))).mono ?_
        rintro e w1 ⟨rfl, rfl⟩
        go_wp2_with fail
        refine (K2.out _ _ _ (IntsAt.new_at ((w.alloc (.cells #[.bool s0, .int .i64 sb, .int .i64 sh, .int .i64 sr, .int .i64 sx, .int .i64 sy, .int .i64 st, .int .i64 sj] 39)).alloc (.cells #[.int .i64 sb, .int .i64 sh, .int .i64 st] 2)) 2 .i64 [sr, sx, sy] [.int .i64 sr, .int .i64 sx, .int .i64 sy] rfl _ (by rw [size_alloc2]))).mono ?_
        rintro e w1 ⟨rfl, rfl⟩
        go_wp2
        go_ret
        exact ⟨rfl, Bel.push (Bel.push (Bel.push (Bel.refl w) _) _) _⟩
      · go_enter Try.func52, Try.ntmps52
        go_wp2_with fail
        refine (K1.out _ _ _ (IntsAt.new_at (w.alloc (.cells #[.bool s0, .int .i64 sb, .int .i64 sh, .int .i64 sr, .int .i64 sx, .int .i64 sy, .int .i64 st, .int .i64 sj] 39)) 2 .i64 [sb, sh, st] [.int .i64 sb, .int .i64 sh, .int .i64 st] rfl _ (by rw [size_alloc1]))).mono ?_
        rintro e w1 ⟨rfl, rfl⟩
        go_wp2_with fail
        refine (K2.out _ _ _ (IntsAt.new_at ((w.alloc (.cells #[.bool s0, .int .i64 sb, .int .i64 sh, .int .i64 sr, .int .i64 sx, .int .i64 sy, .int .i64 st, .int .i64 sj] 39)).alloc (.cells #[.int .i64 sb, .int .i64 sh, .int .i64 st] 2)) 2 .i64 [sr, sx, sy] [.int .i64 sr, .int .i64 sx, .int .i64 sy] rfl _ (by rw [size_alloc2]))).mono ?_
        rintro e w1 ⟨rfl, rfl⟩
        go_wp2_with fail
        refine (K3.out _ _ _ (IntsAt.new_at (((w.alloc (.cells #[.bool s0, .int .i64 sb, .int .i64 sh, .int .i64 sr, .int .i64 sx, .int .i64 sy, .int .i64 st, .int .i64 sj] 39)).alloc (.cells #[.int .i64 sb, .int .i64 sh, .int .i64 st] 2)).alloc (.cells #[.int .i64 sr, .int .i64 sx, .int .i64 sy] 2)) 2 .i64 [sj] [.int .i64 sj] rfl _ (by rw [size_alloc3]))).mono ?_
        rintro e w1 ⟨rfl, rfl⟩
        go_wp2
        go_ret
        exact ⟨rfl, Bel.push (Bel.push (Bel.push (Bel.push (Bel.refl w) _) _) _) _⟩
end
end Go.Proofs.Ytahbecinkciahaa
