/- Layer 28: Unpack of the program. -/
import Derived.Test.YtcnijhcoifodpaaDelPack
import Derived.Laws.BitsAllLaws
namespace Go.Proofs.Ytcnijhcoifodpaa
open Go.RowKit
set_option linter.unusedVariables false
attribute [local go_sem] setCell_drewN alloc_drewN
/-- a block that Unpack takes -/
def Dlt.okB (bs : List Int) (n : Nat) : Prop := bs.length = 4 + (n + 1) / 2 ∧ bs.getD 2 0 ≤ 88 ∧ bs.getD 3 0 = 0 ∧ (n % 2 = 1 → bs.getD (bs.length - 1) 0 % 16 = 0)
instance (bs : List Int) (n : Nat) : Decidable (Dlt.okB bs n) := by unfold Dlt.okB; infer_instance
theorem or_bytes (x0 x1 : Int) (a0 : 0 ≤ x0) (b0 : x0 ≤ 255) (a1 : 0 ≤ x1) (b1 : x1 ≤ 255) : bits BinOp.or IntKind.u16 (x0 * 256) x1 = 256 * x0 + x1 := by
  obtain ⟨n0, rfl⟩ := Int.eq_ofNat_of_zero_le a0
  obtain ⟨n1, rfl⟩ := Int.eq_ofNat_of_zero_le a1
  have e : ((n0 : Int) * 256) = ((n0 * 256 : Nat) : Int) := by omega
  have h : n0 * 256 ||| n1 = n0 * 256 + n1 := by
    rw [show (256 : Nat) = 2 ^ 8 from rfl, ← Nat.shiftLeft_eq, Nat.shiftLeft_add_eq_or_of_lt (by omega)]
  rw [e, u16_or_nat (n0 * 256) n1 (by omega) (by omega), h]
  omega
theorem wrap_i16_eq (n : Int) : IntKind.i16.wrap n = (n + 32768) % 65536 - 32768 := by
  simp [IntKind.wrap, IntKind.bits, IntKind.signed]
  try omega
theorem head_word (x0 x1 : Int) (a0 : 0 ≤ x0) (b0 : x0 ≤ 255) (a1 : 0 ≤ x1) (b1 : x1 ≤ 255) : wrap64 (IntKind.i16.wrap (bits BinOp.or IntKind.u16 (x0 * 256) x1)) = (256 * x0 + x1 + 32768) % 65536 - 32768 := by
  rw [or_bytes x0 x1 a0 b0 a1 b1, wrap_i16_eq, IntWalk.wrap64_in _ ⟨by omega, by omega⟩]
theorem Dlt.headS_valid (bs : List Int) (n : Nat) (h : Dlt.okB bs n) (hz : Within 0 255 bs) : Dlt.valid (Dlt.headS bs).1 (Dlt.headS bs).2 = true := by
  have h2 := (hz.at (i := 2) (by have := h.1; omega)).1
  have h3 := h.2.1
  unfold Dlt.headS
  generalize 256 * bs.getD 0 0 + bs.getD 1 0 = y
  generalize bs.getD 2 0 = z at *
  have e1 : -32768 ≤ (y + 32768) % 65536 - 32768 := by omega
  have e2 : (y + 32768) % 65536 - 32768 ≤ 32767 := by omega
  simp [Dlt.valid, e1, e2, h2, h3]
set_option maxHeartbeats 400000 in
theorem Unpack_range (n : Int) (A : Option Addr) (m cap : Nat) (w : World) (hn : n < 0 ∨ 8000 < n) :
    Calls Try.prog 21 #[.slice A m cap, .int .i64 n] w fun e w' => e = .returned (.tuple #[.slice none 0 0, .agg #[.int .i64 0, .int .i64 0], .int .u8 3]) ∧ Below w.heap.size w w' := by
  rcases hn with hn | hn
  all_goals
    go_enter Try.func21, Try.ntmps21
    go_wp2_with fail
    refine bodyPost_ret (v := .tuple #[.slice none 0 0, .agg #[.int .i64 0, .int .i64 0], .int .u8 3]) (by simp [results, Try.results21, go_sem]) rfl ⟨rfl, ?_⟩
    repeat (first | exact Below.refl _ _ | refine Below.setCell ?_ (by simp) _ | refine Below.alloc ?_ (by simp; try omega) _)
set_option maxHeartbeats 400000 in
theorem Unpack_short (n : Nat) (A : Option Addr) (m cap : Nat) (w : World) (hn : n ≤ 8000) (hm : m < 4 + (n + 1) / 2) :
    Calls Try.prog 21 #[.slice A m cap, .int .i64 n] w fun e w' => e = .returned (.tuple #[.slice none 0 0, .agg #[.int .i64 0, .int .i64 0], .int .u8 6]) ∧ Below w.heap.size w w' := by
  go_enter Try.func21, Try.ntmps21
  go_wp2_with fail
  refine (blockSize_any n _ hn).mono ?_
  rintro e w' ⟨rfl, rfl⟩
  generalize hs : 4 + (n + 1) / 2 = N at *
  go_wp2_with fail
  refine bodyPost_ret (v := .tuple #[.slice none 0 0, .agg #[.int .i64 0, .int .i64 0], .int .u8 6]) (by simp [results, Try.results21, go_sem]) rfl ⟨rfl, ?_⟩
  repeat (first | exact Below.refl _ _ | refine Below.setCell ?_ (by simp) _ | refine Below.alloc ?_ (by simp; try omega) _)
set_option maxHeartbeats 1600000 in
theorem Unpack_syntax (n : Nat) (A : Option Addr) (bs : List Int) (cap : Nat) (w : World) (hn : n ≤ 8000) (hA : IntsAt w w.heap.size .u8 A bs) (hz : Within 0 255 bs) (hm : 4 + (n + 1) / 2 ≤ bs.length) (hno : ¬Dlt.okB bs n) (hmax : bs.length ≤ maxLen) :
    Calls Try.prog 21 #[.slice A bs.length cap, .int .i64 n] w fun e w' => e = .returned (.tuple #[.slice none 0 0, .agg #[.int .i64 0, .int .i64 0], .int .u8 5]) ∧ Below w.heap.size w w' := by
  obtain ⟨b, off, rfl, hbB, hcell⟩ := hA (by omega)
  have c2 := hcell 2 (by omega)
  have c3 := hcell 3 (by omega)
  have cl := hcell (bs.length - 1) (by omega)
  obtain ⟨l0, l1⟩ := hz.at (i := bs.length - 1) (by omega)
  obtain ⟨g0, g1⟩ := hz.at (i := 2) (by omega)
  obtain ⟨t0, t1⟩ := hz.at (i := 3) (by omega)
  have hb' : b ≠ w.heap.size := by omega
  unfold Dlt.okB at hno
  generalize bs.getD 2 0 = x2 at *
  generalize bs.getD 3 0 = x3 at *
  generalize bs.getD (bs.length - 1) 0 = xl at *
  clear hA hz hcell
  generalize hM : bs.length = M at *
  unfold maxLen at hmax
  have hM4 : (4 : Int) ≤ (M : Int) := by omega
  have hM2 : (2 : Int) < (M : Int) := by omega
  have hM3 : (3 : Int) < (M : Int) := by omega
  have hl0 : (0 : Int) ≤ (M : Int) - 1 := by omega
  have hl1 : (M : Int) - 1 < (M : Int) := by omega
  have hl2 : ((M : Int) - 1).toNat = M - 1 := by omega
  have cc2 : (w.alloc (.cells #[.int .i64 0, .int .i64 0] 23)).cell? ⟨b, off + 2, none⟩ = some (.int .u8 x2) := (World.cell?_alloc_lt w _ _ hbB).trans c2
  have cc3 : (w.alloc (.cells #[.int .i64 0, .int .i64 0] 23)).cell? ⟨b, off + 3, none⟩ = some (.int .u8 x3) := (World.cell?_alloc_lt w _ _ hbB).trans c3
  have ccl : (w.alloc (.cells #[.int .i64 0, .int .i64 0] 23)).cell? ⟨b, off + (M - 1), none⟩ = some (.int .u8 xl) := (World.cell?_alloc_lt w _ _ hbB).trans cl
  clear c2 c3 cl
  generalize hs : 4 + (n + 1) / 2 = N at *
  have HS := Lib.hid hs
  have h : N < M ∨ (M = N ∧ 88 < x2) ∨ (M = N ∧ x2 ≤ 88 ∧ x3 ≠ 0) ∨ (M = N ∧ x2 ≤ 88 ∧ x3 = 0 ∧ (n : Int) % 2 = 1 ∧ xl % 16 ≠ 0) := by omega
  clear hno hs
  rcases h with h | ⟨rfl, h⟩ | ⟨rfl, h2, h3⟩ | ⟨rfl, h2, rfl, h4, h5⟩
  all_goals try have h5b : (xl % 16 != 0) = true := bne_iff_ne.2 h5
  all_goals
    go_enter Try.func21, Try.ntmps21
    go_wp2_with fail
    refine (blockSize_any n _ hn).mono ?_
    rintro e w' ⟨rfl, rfl⟩
    rw [HS.out]
    go_wp2_with fail
    refine (blockSize_any n _ hn).mono ?_
    rintro e w' ⟨rfl, rfl⟩
    rw [HS.out]
    go_wp2_with fail
    refine bodyPost_ret (v := .tuple #[.slice none 0 0, .agg #[.int .i64 0, .int .i64 0], .int .u8 5]) (by simp [results, Try.results21, go_sem]) rfl ⟨rfl, ?_⟩
    repeat (first | exact Below.refl _ _ | refine Below.setCell ?_ (by simp) _ | refine Below.alloc ?_ (by simp; try omega) _)
theorem unpack_round {w wo : World} {B gt n r k : Nat} {t t5 : TypeId} {s : Int × Int} {bs : List Int} {V I c : Int} (hg : B + 1 + 1 ≤ gt) (hgr : gt < r) (h0 : Blk w B t #[.int .i64 0, .int .i64 0]) (h1 : Blk w (B + 1) t #[.int .i64 V, .int .i64 I])
    (hr : w.rowIs r t5 n (fun j => .int .i16 (if j < k then (Dlt.dAt s bs (j + 1)).1 else 0))) (hs : StepsAt w gt) (hb : Below B wo w) (hst : Dlt.dAt s bs (k + 1) = (Dlt.nextV V I c, Dlt.nextI I c)) :
    Blk (((w.setCell ⟨B + 1, 0, none⟩ (.int .i64 (Dlt.nextV V I c))).setCell ⟨B + 1, 1, none⟩ (.int .i64 (Dlt.nextI I c))).setCell ⟨r, k, none⟩ (.int .i16 (Dlt.nextV V I c))) B t #[.int .i64 0, .int .i64 0] ∧
    Blk (((w.setCell ⟨B + 1, 0, none⟩ (.int .i64 (Dlt.nextV V I c))).setCell ⟨B + 1, 1, none⟩ (.int .i64 (Dlt.nextI I c))).setCell ⟨r, k, none⟩ (.int .i16 (Dlt.nextV V I c))) (B + 1) t #[.int .i64 (Dlt.dAt s bs (k + 1)).1, .int .i64 (Dlt.dAt s bs (k + 1)).2] ∧
    (((w.setCell ⟨B + 1, 0, none⟩ (.int .i64 (Dlt.nextV V I c))).setCell ⟨B + 1, 1, none⟩ (.int .i64 (Dlt.nextI I c))).setCell ⟨r, k, none⟩ (.int .i16 (Dlt.nextV V I c))).rowIs r t5 n (fun j => .int .i16 (if j < k + 1 then (Dlt.dAt s bs (j + 1)).1 else 0)) ∧
    StepsAt (((w.setCell ⟨B + 1, 0, none⟩ (.int .i64 (Dlt.nextV V I c))).setCell ⟨B + 1, 1, none⟩ (.int .i64 (Dlt.nextI I c))).setCell ⟨r, k, none⟩ (.int .i16 (Dlt.nextV V I c))) gt ∧
    Below B wo (((w.setCell ⟨B + 1, 0, none⟩ (.int .i64 (Dlt.nextV V I c))).setCell ⟨B + 1, 1, none⟩ (.int .i64 (Dlt.nextI I c))).setCell ⟨r, k, none⟩ (.int .i16 (Dlt.nextV V I c))) := by
  refine ⟨?_, ?_, ?_, ?_, ?_⟩
  · exact ((h0.far (by simp) _).far (by simp) _).far (by simp; omega) _
  · rw [hst]
    exact ((h1.set_ 0 _).set_ 1 _).far (by simp; omega) _
  · have h := rowIs_fill (g := fun j => (Dlt.dAt s bs (j + 1)).1) ((hr.setOther (a := ⟨B + 1, 0, none⟩) (by simp; omega) (.int .i64 (Dlt.nextV V I c))).setOther (a := ⟨B + 1, 1, none⟩) (by simp; omega) (.int .i64 (Dlt.nextI I c)))
    simp only [hst] at h
    exact h
  · exact ((hs.far (by simp; omega) _).far (by simp; omega) _).far (by simp; omega) _
  · exact ((hb.setCell (by simp) _).setCell (by simp) _).setCell (by simp; omega) _
set_option maxHeartbeats 3200000 in
theorem Unpack_ok (n : Nat) (A : Option Addr) (bs : List Int) (cap : Nat) (w : World) (hn : n ≤ 8000) (hn1 : 0 < n) (hA : IntsAt w w.heap.size .u8 A bs) (hz : Within 0 255 bs) (hok : Dlt.okB bs n) (hcap : bs.length ≤ cap) :
    Calls Try.prog 21 #[.slice A bs.length cap, .int .i64 n] w fun e w' => ∃ (A' : Option Addr) (c' : Nat), e = .returned (.tuple #[.slice A' n c', .agg #[.int .i64 (Dlt.dAt (Dlt.headS bs) bs n).1, .int .i64 (Dlt.dAt (Dlt.headS bs) bs n).2], .int .u8 0]) ∧
      IntsAt w' w'.heap.size .i16 A' (Dlt.unpackL bs n) ∧ Below w.heap.size w w' := by
  have HVAL := Lib.hid (Dlt.headS_valid bs n hok hz)
  obtain ⟨ok1, ok2, ok3, ok4⟩ := hok
  obtain ⟨b, off, rfl, hbB, hcell⟩ := hA (by omega)
  have c0 := hcell 0 (by omega)
  have c1 := hcell 1 (by omega)
  have c2 := hcell 2 (by omega)
  have c3 := hcell 3 (by omega)
  have cl := hcell (bs.length - 1) (by omega)
  obtain ⟨l0, l1⟩ := hz.at (i := bs.length - 1) (by omega)
  obtain ⟨a0, a1⟩ := hz.at (i := 0) (by omega)
  obtain ⟨b0, b1⟩ := hz.at (i := 1) (by omega)
  obtain ⟨g0, g1⟩ := hz.at (i := 2) (by omega)
  have hb' : b ≠ w.heap.size := by omega
  have hb'' : b ≠ w.heap.size + 1 := by omega
  generalize hx0 : bs.getD 0 0 = x0 at *
  generalize hx1 : bs.getD 1 0 = x1 at *
  generalize hx2 : bs.getD 2 0 = x2 at *
  generalize hx3 : bs.getD 3 0 = x3 at *
  have HX3 := Lib.hid (show bs.getD 3 0 = 0 by rw [hx3, ok3])
  subst ok3
  generalize bs.getD (bs.length - 1) 0 = xl at *
  have HX0 := Lib.hid hx0
  have HX1 := Lib.hid hx1
  have HX2 := Lib.hid hx2
  have HCELL := Lib.hid hcell
  have HZ := Lib.hid hz
  generalize hM : bs.length = M at *
  have HMM := Lib.hid hM
  clear hA hz hcell hx0 hx1 hx2 hM
  have hM4 : (4 : Int) ≤ (M : Int) := by omega
  have hM2 : (2 : Int) < (M : Int) := by omega
  have hM3 : (3 : Int) < (M : Int) := by omega
  have hM1 : (1 : Int) < (M : Int) := by omega
  have hM0 : (0 : Int) < (M : Int) := by omega
  have hl0 : (0 : Int) ≤ (M : Int) - 1 := by omega
  have hl1 : (M : Int) - 1 < (M : Int) := by omega
  have hl2 : ((M : Int) - 1).toNat = M - 1 := by omega
  have cc0 : (w.alloc (.cells #[.int .i64 0, .int .i64 0] 23)).cell? ⟨b, off, none⟩ = some (.int .u8 x0) := (World.cell?_alloc_lt w _ _ hbB).trans c0
  have cc1 : (w.alloc (.cells #[.int .i64 0, .int .i64 0] 23)).cell? ⟨b, off + 1, none⟩ = some (.int .u8 x1) := (World.cell?_alloc_lt w _ _ hbB).trans c1
  have cc2 : (w.alloc (.cells #[.int .i64 0, .int .i64 0] 23)).cell? ⟨b, off + 2, none⟩ = some (.int .u8 x2) := (World.cell?_alloc_lt w _ _ hbB).trans c2
  have cc3 : (w.alloc (.cells #[.int .i64 0, .int .i64 0] 23)).cell? ⟨b, off + 3, none⟩ = some (.int .u8 0) := (World.cell?_alloc_lt w _ _ hbB).trans c3
  have ccl : (w.alloc (.cells #[.int .i64 0, .int .i64 0] 23)).cell? ⟨b, off + (M - 1), none⟩ = some (.int .u8 xl) := (World.cell?_alloc_lt w _ _ hbB).trans cl
  have cd0 : ((w.alloc (.cells #[.int .i64 0, .int .i64 0] 23)).alloc (.cells #[.int .i64 0, .int .i64 0] 23)).cell? ⟨b, off, none⟩ = some (.int .u8 x0) := (World.cell?_alloc_lt _ _ _ (by simp; omega)).trans ((World.cell?_alloc_lt w _ _ hbB).trans c0)
  have cd1 : ((w.alloc (.cells #[.int .i64 0, .int .i64 0] 23)).alloc (.cells #[.int .i64 0, .int .i64 0] 23)).cell? ⟨b, off + 1, none⟩ = some (.int .u8 x1) := (World.cell?_alloc_lt _ _ _ (by simp; omega)).trans ((World.cell?_alloc_lt w _ _ hbB).trans c1)
  have cd2 : ((w.alloc (.cells #[.int .i64 0, .int .i64 0] 23)).alloc (.cells #[.int .i64 0, .int .i64 0] 23)).cell? ⟨b, off + 2, none⟩ = some (.int .u8 x2) := (World.cell?_alloc_lt _ _ _ (by simp; omega)).trans ((World.cell?_alloc_lt w _ _ hbB).trans c2)
  clear c0 c1 c2 c3 cl
  obtain ⟨N, hN⟩ : ∃ N, N = 4 + (n + 1) / 2 := ⟨_, rfl⟩
  obtain rfl : M = N := by omega
  have HS := Lib.hid hN.symm
  have h5 : 5 ≤ M := by omega
  have h5' : M ≤ 4005 := by omega
  clear hN ok1
  have hpar : (n : Int) % 2 = 0 ∨ ((n : Int) % 2 = 1 ∧ (xl % 16 != 0) = false) := by
    by_cases h : n % 2 = 1
    · exact .inr ⟨by omega, by have := ok4 h; simp [this]⟩
    · exact .inl (by omega)
  clear ok4
  go_enter Try.func21, Try.ntmps21
  go_wp2_with fail
  refine (blockSize_any n _ hn).mono ?_
  rintro e w' ⟨rfl, rfl⟩
  rw [HS.out]
  go_wp2_with fail
  refine (blockSize_any n _ hn).mono ?_
  rintro e w' ⟨rfl, rfl⟩
  rw [HS.out]
  have HI2 := Lib.hid szA_info
  have hz89 := zero89
  rcases hpar with hp | ⟨hp, hq⟩
  all_goals
    go_wp2_with fail
    go_region
    go_wp2_with fail
    have hhw := head_word x0 x1 a0 a1 b0 b1
    generalize wrap64 (IntKind.i16.wrap (bits BinOp.or IntKind.u16 (x0 * 256) x1)) = V0 at *
    refine (sizes_any _).mono ?_
    rintro e w3 ⟨rfl, hb3⟩
    have b0 : Blk ((w.alloc (.cells #[.int .i64 0, .int .i64 0] 23)).alloc (.cells #[.int .i64 V0, .int .i64 x2] 23)).drew w.heap.size 23 #[.int .i64 0, .int .i64 0] := ((Blk.new w _ _).alloc _).drew
    have b1 : Blk ((w.alloc (.cells #[.int .i64 0, .int .i64 0] 23)).alloc (.cells #[.int .i64 V0, .int .i64 x2] 23)).drew (w.heap.size + 1) 23 #[.int .i64 V0, .int .i64 x2] := by
      have h := Blk.new (w.alloc (.cells #[.int .i64 0, .int .i64 0] 23)) 23 #[.int .i64 V0, .int .i64 x2]
      rw [show (w.alloc (.cells #[.int .i64 0, .int .i64 0] 23)).heap.size = w.heap.size + 1 by simp] at h
      exact h.drew
    have hbw : Below w.heap.size w ((w.alloc (.cells #[.int .i64 0, .int .i64 0] 23)).alloc (.cells #[.int .i64 V0, .int .i64 x2] 23)).drew := (((Below.refl _ w).alloc (Nat.le_refl _) _).alloc (by simp) _).drew
    have hs3 : w.heap.size + 1 + 1 ≤ w3.heap.size := by have := hb3.size; simpa using this
    have HB0 := Lib.hid ((b0.later hb3).later (laid_below w3))
    have HB1 := Lib.hid ((b1.later hb3).later (laid_below w3))
    have HBW := Lib.hid ((hbw.trans (hb3.mono hbw.size)).trans ((laid_below w3).mono (by omega)))
    have HST := Lib.hid (laid_steps w3)
    have HT := Lib.hid (laid_there w3)
    have HSZ := Lib.hid (laid_size w3)
    have hmk := run_make_row' (P := Try.prog) 36 24 (.int .i16 0) 2 Try.underlying36 info_i16 rfl .i64 .i64 n (by omega) (by omega) (laidW w3)
    clear b0 b1 hbw hb3 cc0 cc1 cc2 cc3 ccl cd0 cd1 cd2
    go_wp2_with (first
      | (refine wpList_store_mid rfl 46 (.tmp 9) (.tmp 82) (by rfl) w3.heap.size 0 Dlt.szA (by rfl) (by rfl) HT.out HI2.out szA_one ?_; change wpList _ _ _ _ _ (laidW w3); generalize laidW w3 = W4 at *; generalize w3.heap.size = gt at *; clear hz89 HT HI2)
      | fail)
    have HH : Hid (Dlt.headS bs = (V0, x2)) := Lib.hid (by unfold Dlt.headS; rw [HX0.out, HX1.out, HX2.out, hhw])
    have HSV0 : Hid (Dlt.valid V0 x2 = true) := Lib.hid (by have h := HVAL.out; rw [HH.out] at h; exact h)
    generalize hr : W4.heap.size = r at *
    have hs4 : w.heap.size + 1 + 1 ≤ r := by have := HSZ.out; omega
    have HSZ' := Lib.hid HSZ.out
    clear hmk hhw
    go_loopw [86] (fun q wr => ∃ k : Nat, k ≤ n ∧ q = .int .i64 k ∧ Blk wr w.heap.size 23 #[.int .i64 0, .int .i64 0] ∧
        Blk wr (w.heap.size + 1) 23 #[.int .i64 (Dlt.dAt (V0, x2) bs k).1, .int .i64 (Dlt.dAt (V0, x2) bs k).2] ∧
        wr.rowIs r 24 n (fun j => .int .i16 (if j < k then (Dlt.dAt (V0, x2) bs (j + 1)).1 else 0)) ∧ StepsAt wr gt ∧ Below w.heap.size w wr)
      (fun q _ => n - (intOf q).toNat)
    case atStart =>
      refine ⟨0, Nat.zero_le _, rfl, HB0.out.alloc _, HB1.out.alloc _, ?_, ?_, ?_⟩
      · have h := World.rowIs_made W4 (.int .i16 0) n 24
        rw [hr] at h
        exact h.congr fun j _ => by simp
      · exact HST.out.below ((Below.refl _ _).alloc (Nat.le_refl _) _)
      · exact HBW.out.alloc (by omega) _
    case round =>
      obtain ⟨k, hk, rfl, B0, B1, R, hst, hb⟩ := hrel
      clear HB0 HB1 HST HBW
      have HSV := Lib.hid (Dlt.dAt_valid (V0, x2) HSV0.out bs k)
      have HNX : Hid (Dlt.dAt (V0, x2) bs (k + 1) = (Dlt.nextV (Dlt.dAt (V0, x2) bs k).1 (Dlt.dAt (V0, x2) bs k).2 (Dlt.nib bs k), Dlt.nextI (Dlt.dAt (V0, x2) bs k).2 (Dlt.nib bs k))) := Lib.hid rfl
      by_cases hlt : k < n
      · have hM6 : 4 + k / 2 < M := by have := HS.out; omega
        have hck : wr.cell? ⟨b, off + 4 + k / 2, none⟩ = some (.int .u8 (bs.getD (4 + k / 2) 0)) := by
          rw [Nat.add_assoc]
          exact (hb.cell (p := ⟨b, off + (4 + k / 2), none⟩) hbB).trans (HCELL.out _ hM6)
        have hzk := HZ.out.at (i := 4 + k / 2) (by rw [HMM.out]; exact hM6)
        have hnib : Dlt.nib bs k = if k % 2 = 0 then bs.getD (4 + k / 2) 0 / 16 else bs.getD (4 + k / 2) 0 % 16 := rfl
        generalize bs.getD (4 + k / 2) 0 = x at hck hzk hnib
        obtain ⟨z0, z1⟩ := hzk
        generalize hc : Dlt.nib bs k = c at *
        generalize hV : (Dlt.dAt (V0, x2) bs k).1 = V at *
        generalize hI : (Dlt.dAt (V0, x2) bs k).2 = I at *
        have HC := Lib.hid hnib
        have c0 := B1.at 0 _ rfl
        have c1 := B1.at 1 _ rfl
        have f0 := B1.frozen 0
        have f1 := B1.frozen 1
        have HB0 := Lib.hid B0
        have HB1 := Lib.hid B1
        have HR := Lib.hid R
        have HST := Lib.hid hst
        have HB := Lib.hid hb
        have hn0 : (0 : Int) ≤ (k : Int) / 2 := by omega
        have hn2 : (k : Int) / 2 < ((M - 4 : Nat) : Int) := by omega
        have hk0 : (0 : Int) ≤ (k : Int) := by omega
        have hk1 : (k : Int) < (n : Int) := by omega
        clear B0 B1 R hst hb hV hI hc hnib
        by_cases hpar : k % 2 = 0
        · have hpar' : (k : Int) % 2 = 0 := by omega
          have hce : x / 16 % 16 = c := by have := HC.out; rw [if_pos hpar] at this; omega
          have HCE := Lib.hid hce
          have z2 : 0 ≤ c := by omega
          have z3 : c ≤ 15 := by omega
          clear hpar hce
          go_wp2_with fail
          rw [HCE.out]
          refine (decode_any gt V I c _ HST.out HSV.out z2 z3).mono ?_
          rintro e w6 ⟨rfl, hb6⟩
          have HB06 := Lib.hid (HB0.out.later hb6)
          have HB16 := Lib.hid (HB1.out.later hb6)
          have HR6 := Lib.hid (rowIs_below HR.out hb6 HR.out.lt)
          have HST6 := Lib.hid (HST.out.below hb6)
          have HBW6 := Lib.hid (HB.out.trans (hb6.mono HB.out.size))
          clear hb6 HB0 HB1 HR HST HB c0 c1 f0 f1 hck
          have c0 := HB16.out.at 0 _ rfl
          have c1 := HB16.out.at 1 _ rfl
          have f0 := HB16.out.frozen 0
          have f1 := HB16.out.frozen 1
          have hrc := HR6.out.cell (i := k) (by omega)
          have hrf := HR6.out.frozen k
          have hd1 : w.heap.size + 1 ≠ r := by omega
          have hd2 : r ≠ w.heap.size + 1 := by omega
          obtain ⟨nv0, nv1⟩ := Dlt.nextV_bd V I c
          go_wp2
          go_roundw
          case rel =>
            have h := unpack_round hs3 HSZ'.out HB06.out HB16.out HR6.out HST6.out HBW6.out HNX.out
            exact ⟨k + 1, by omega, by go_num, h⟩
          case measure => simp [intOf]; omega
        · have hpar' : (k : Int) % 2 = 1 := by omega
          have hce : x % 16 = c := by have := HC.out; rw [if_neg hpar] at this; omega
          have HCE := Lib.hid hce
          have z2 : 0 ≤ c := by omega
          have z3 : c ≤ 15 := by omega
          clear hpar hce
          go_wp2_with fail
          rw [HCE.out]
          refine (decode_any gt V I c _ HST.out HSV.out z2 z3).mono ?_
          rintro e w6 ⟨rfl, hb6⟩
          have HB06 := Lib.hid (HB0.out.later hb6)
          have HB16 := Lib.hid (HB1.out.later hb6)
          have HR6 := Lib.hid (rowIs_below HR.out hb6 HR.out.lt)
          have HST6 := Lib.hid (HST.out.below hb6)
          have HBW6 := Lib.hid (HB.out.trans (hb6.mono HB.out.size))
          clear hb6 HB0 HB1 HR HST HB c0 c1 f0 f1 hck
          have c0 := HB16.out.at 0 _ rfl
          have c1 := HB16.out.at 1 _ rfl
          have f0 := HB16.out.frozen 0
          have f1 := HB16.out.frozen 1
          have hrc := HR6.out.cell (i := k) (by omega)
          have hrf := HR6.out.frozen k
          have hd1 : w.heap.size + 1 ≠ r := by omega
          have hd2 : r ≠ w.heap.size + 1 := by omega
          obtain ⟨nv0, nv1⟩ := Dlt.nextV_bd V I c
          go_wp2
          go_roundw
          case rel =>
            have h := unpack_round hs3 HSZ'.out HB06.out HB16.out HR6.out HST6.out HBW6.out HNX.out
            exact ⟨k + 1, by omega, by go_num, h⟩
          case measure => simp [intOf]; omega
      · obtain rfl : k = n := by omega
        have HB0 := Lib.hid B0
        have HB1 := Lib.hid B1
        have HR := Lib.hid R
        have HB := Lib.hid hb
        have HHH := Lib.hid (show Dlt.headS bs = (V0, x2) from HH.out)
        generalize hV : (Dlt.dAt (V0, x2) bs k).1 = V at *
        generalize hI : (Dlt.dAt (V0, x2) bs k).2 = I at *
        have HV := Lib.hid hV
        have HI := Lib.hid hI
        have c0 := B1.at 0 _ rfl
        have c1 := B1.at 1 _ rfl
        have d0 := B0.at 0 _ rfl
        have d1 := B0.at 1 _ rfl
        have f0 := B0.frozen 0
        have f1 := B0.frozen 1
        clear B0 B1 R hst hb hV hI
        go_wp2
        go_region
        go_wp2
        refine bodyPost_ret (v := .tuple #[.slice (some ⟨r, 0, none⟩) k k, .agg #[.int .i64 V, .int .i64 I], .int .u8 0]) (by simp [results, Try.results21, go_sem, d0, d1]) rfl ?_
        refine ⟨some ⟨r, 0, none⟩, k, by rw [HHH.out, HV.out, HI.out], ?_, ?_⟩
        · refine IntsAt.of_row (((HR.out.setOther (by simp; omega) _).setOther (by simp; omega) _).drew) (by simp [Dlt.unpackL]) fun j hj => ?_
          have hj' : j < k := by simpa [Dlt.unpackL] using hj
          rw [if_pos hj', Dlt.unpackL, HHH.out]
          simp [List.getD_eq_getElem?_getD, List.getElem?_range hj']
        · exact ((HB.out.setCell (by simp) _).setCell (by simp) _).drew
end Go.Proofs.Ytcnijhcoifodpaa
