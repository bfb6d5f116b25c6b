/- Layer 28: Unpack of the reference. -/
import Derived.Test.YtcnijhcoifodpaaDelUnpack
namespace Go.Proofs.Ytcnijhcoifodpaa
open Go.RowKit
set_option linter.unusedVariables false
attribute [local go_sem] setCell_drewN alloc_drewN
set_option maxHeartbeats 400000 in
theorem rUnpack_range (n : Int) (A : Option Addr) (m cap : Nat) (w : World) (hn : n < 0 ∨ 8000 < n) :
    Calls Try.prog 22 #[.slice A m cap, .int .i64 n] w fun e w' => e = .returned (.tuple #[.slice none 0 0, .agg #[.int .i64 0, .int .i64 0], .int .u8 3]) ∧ Below w.heap.size w w' := by
  rcases hn with hn | hn
  all_goals
    go_enter Try.func22, Try.ntmps22
    go_wp2_with fail
    refine bodyPost_ret (v := .tuple #[.slice none 0 0, .agg #[.int .i64 0, .int .i64 0], .int .u8 3]) (by simp [results, Try.results22, go_sem]) rfl ⟨rfl, ?_⟩
    repeat (first | exact Below.refl _ _ | refine Below.setCell ?_ (by simp) _ | refine Below.alloc ?_ (by simp; try omega) _)
set_option maxHeartbeats 400000 in
theorem rUnpack_short (n : Nat) (A : Option Addr) (m cap : Nat) (w : World) (hn : n ≤ 8000) (hm : m < 4 + (n + 1) / 2) :
    Calls Try.prog 22 #[.slice A m cap, .int .i64 n] w fun e w' => e = .returned (.tuple #[.slice none 0 0, .agg #[.int .i64 0, .int .i64 0], .int .u8 6]) ∧ Below w.heap.size w w' := by
  go_enter Try.func22, Try.ntmps22
  go_wp2_with fail
  refine bodyPost_ret (v := .tuple #[.slice none 0 0, .agg #[.int .i64 0, .int .i64 0], .int .u8 6]) (by simp [results, Try.results22, go_sem]) rfl ⟨rfl, ?_⟩
  repeat (first | exact Below.refl _ _ | refine Below.setCell ?_ (by simp) _ | refine Below.alloc ?_ (by simp; try omega) _)
set_option maxHeartbeats 1600000 in
theorem rUnpack_syntax (n : Nat) (A : Option Addr) (bs : List Int) (cap : Nat) (w : World) (hn : n ≤ 8000) (hA : IntsAt w w.heap.size .u8 A bs) (hz : Within 0 255 bs) (hm : 4 + (n + 1) / 2 ≤ bs.length) (hno : ¬Dlt.okB bs n) (hmax : bs.length ≤ maxLen) :
    Calls Try.prog 22 #[.slice A bs.length cap, .int .i64 n] w fun e w' => e = .returned (.tuple #[.slice none 0 0, .agg #[.int .i64 0, .int .i64 0], .int .u8 5]) ∧ Below w.heap.size w w' := by
  obtain ⟨b, off, rfl, hbB, hcell⟩ := hA (by omega)
  have c2 := hcell 2 (by omega)
  have c3 := hcell 3 (by omega)
  have cl := hcell (bs.length - 1) (by omega)
  obtain ⟨l0, l1⟩ := hz.at (i := bs.length - 1) (by omega)
  obtain ⟨g0, g1⟩ := hz.at (i := 2) (by omega)
  obtain ⟨t0, t1⟩ := hz.at (i := 3) (by omega)
  have hb' : b ≠ w.heap.size := by omega
  unfold Dlt.okB at hno
  generalize bs.getD 2 0 = x2 at *
  generalize bs.getD 3 0 = x3 at *
  generalize bs.getD (bs.length - 1) 0 = xl at *
  clear hA hz hcell
  generalize hM : bs.length = M at *
  unfold maxLen at hmax
  have hM4 : (4 : Int) ≤ (M : Int) := by omega
  have hM2 : (2 : Int) < (M : Int) := by omega
  have hM3 : (3 : Int) < (M : Int) := by omega
  have hl0 : (0 : Int) ≤ (M : Int) - 1 := by omega
  have hl1 : (M : Int) - 1 < (M : Int) := by omega
  have hl2 : ((M : Int) - 1).toNat = M - 1 := by omega
  have cc2 : (w.alloc (.cells #[.int .i64 0, .int .i64 0] 23)).cell? ⟨b, off + 2, none⟩ = some (.int .u8 x2) := (World.cell?_alloc_lt w _ _ hbB).trans c2
  have cc3 : (w.alloc (.cells #[.int .i64 0, .int .i64 0] 23)).cell? ⟨b, off + 3, none⟩ = some (.int .u8 x3) := (World.cell?_alloc_lt w _ _ hbB).trans c3
  have ccl : (w.alloc (.cells #[.int .i64 0, .int .i64 0] 23)).cell? ⟨b, off + (M - 1), none⟩ = some (.int .u8 xl) := (World.cell?_alloc_lt w _ _ hbB).trans cl
  clear c2 c3 cl
  generalize hs : 4 + (n + 1) / 2 = N at *
  have HS := Lib.hid hs
  have hsI : (4 : Int) + ((n : Int) + 1) / 2 = (N : Int) := by omega
  have h : N < M ∨ (M = N ∧ 88 < x2) ∨ (M = N ∧ x2 ≤ 88 ∧ x3 ≠ 0) ∨ (M = N ∧ x2 ≤ 88 ∧ x3 = 0 ∧ (n : Int) % 2 = 1 ∧ xl % 16 ≠ 0) := by omega
  clear hno hs
  rcases h with h | ⟨rfl, h⟩ | ⟨rfl, h2, h3⟩ | ⟨rfl, h2, rfl, h4, h5⟩
  all_goals try have h5b : (xl % 16 != 0) = true := bne_iff_ne.2 h5
  all_goals
    go_enter Try.func22, Try.ntmps22
    go_wp2_with fail
    refine bodyPost_ret (v := .tuple #[.slice none 0 0, .agg #[.int .i64 0, .int .i64 0], .int .u8 5]) (by simp [results, Try.results22, go_sem]) rfl ⟨rfl, ?_⟩
    repeat (first | exact Below.refl _ _ | refine Below.setCell ?_ (by simp) _ | refine Below.alloc ?_ (by simp; try omega) _)
set_option maxHeartbeats 3200000 in
theorem rUnpack_ok (n : Nat) (A : Option Addr) (bs : List Int) (cap : Nat) (w : World) (hn : n ≤ 8000) (hA : IntsAt w w.heap.size .u8 A bs) (hz : Within 0 255 bs) (hok : Dlt.okB bs n) (hcap : bs.length ≤ cap) :
    Calls Try.prog 22 #[.slice A bs.length cap, .int .i64 n] w fun e w' => ∃ (A' : Option Addr) (c' : Nat), e = .returned (.tuple #[.slice A' n c', .agg #[.int .i64 (Dlt.dAt (Dlt.headS bs) bs n).1, .int .i64 (Dlt.dAt (Dlt.headS bs) bs n).2], .int .u8 0]) ∧
      IntsAt w' w'.heap.size .i16 A' (Dlt.unpackL bs n) ∧ Below w.heap.size w w' := by
  have HVAL := Lib.hid (Dlt.headS_valid bs n hok hz)
  obtain ⟨ok1, ok2, ok3, ok4⟩ := hok
  obtain ⟨b, off, rfl, hbB, hcell⟩ := hA (by omega)
  have c0 := hcell 0 (by omega)
  have c1 := hcell 1 (by omega)
  have c2 := hcell 2 (by omega)
  have c3 := hcell 3 (by omega)
  have cl := hcell (bs.length - 1) (by omega)
  obtain ⟨l0, l1⟩ := hz.at (i := bs.length - 1) (by omega)
  obtain ⟨a0, a1⟩ := hz.at (i := 0) (by omega)
  obtain ⟨b0, b1⟩ := hz.at (i := 1) (by omega)
  obtain ⟨g0, g1⟩ := hz.at (i := 2) (by omega)
  have hb' : b ≠ w.heap.size := by omega
  have hb'' : b ≠ w.heap.size + 1 := by omega
  generalize hx0 : bs.getD 0 0 = x0 at *
  generalize hx1 : bs.getD 1 0 = x1 at *
  generalize hx2 : bs.getD 2 0 = x2 at *
  generalize hx3 : bs.getD 3 0 = x3 at *
  have HX3 := Lib.hid (show bs.getD 3 0 = 0 by rw [hx3, ok3])
  subst ok3
  generalize bs.getD (bs.length - 1) 0 = xl at *
  have HX0 := Lib.hid hx0
  have HX1 := Lib.hid hx1
  have HX2 := Lib.hid hx2
  have HCELL := Lib.hid hcell
  have HZ := Lib.hid hz
  generalize hM : bs.length = M at *
  have HMM := Lib.hid hM
  clear hA hz hcell hx0 hx1 hx2 hM
  have hM4 : (4 : Int) ≤ (M : Int) := by omega
  have hM2 : (2 : Int) < (M : Int) := by omega
  have hM3 : (3 : Int) < (M : Int) := by omega
  have hM1 : (1 : Int) < (M : Int) := by omega
  have hM0 : (0 : Int) < (M : Int) := by omega
  have hl0 : (0 : Int) ≤ (M : Int) - 1 := by omega
  have hl1 : (M : Int) - 1 < (M : Int) := by omega
  have hl2 : ((M : Int) - 1).toNat = M - 1 := by omega
  have cc0 : (w.alloc (.cells #[.int .i64 0, .int .i64 0] 23)).cell? ⟨b, off, none⟩ = some (.int .u8 x0) := (World.cell?_alloc_lt w _ _ hbB).trans c0
  have cc1 : (w.alloc (.cells #[.int .i64 0, .int .i64 0] 23)).cell? ⟨b, off + 1, none⟩ = some (.int .u8 x1) := (World.cell?_alloc_lt w _ _ hbB).trans c1
  have cc2 : (w.alloc (.cells #[.int .i64 0, .int .i64 0] 23)).cell? ⟨b, off + 2, none⟩ = some (.int .u8 x2) := (World.cell?_alloc_lt w _ _ hbB).trans c2
  have cc3 : (w.alloc (.cells #[.int .i64 0, .int .i64 0] 23)).cell? ⟨b, off + 3, none⟩ = some (.int .u8 0) := (World.cell?_alloc_lt w _ _ hbB).trans c3
  have ccl : (w.alloc (.cells #[.int .i64 0, .int .i64 0] 23)).cell? ⟨b, off + (M - 1), none⟩ = some (.int .u8 xl) := (World.cell?_alloc_lt w _ _ hbB).trans cl
  have cd0 : ((w.alloc (.cells #[.int .i64 0, .int .i64 0] 23)).alloc (.cells #[.int .i64 0, .int .i64 0] 23)).cell? ⟨b, off, none⟩ = some (.int .u8 x0) := (World.cell?_alloc_lt _ _ _ (by simp; omega)).trans ((World.cell?_alloc_lt w _ _ hbB).trans c0)
  have cd1 : ((w.alloc (.cells #[.int .i64 0, .int .i64 0] 23)).alloc (.cells #[.int .i64 0, .int .i64 0] 23)).cell? ⟨b, off + 1, none⟩ = some (.int .u8 x1) := (World.cell?_alloc_lt _ _ _ (by simp; omega)).trans ((World.cell?_alloc_lt w _ _ hbB).trans c1)
  have cd2 : ((w.alloc (.cells #[.int .i64 0, .int .i64 0] 23)).alloc (.cells #[.int .i64 0, .int .i64 0] 23)).cell? ⟨b, off + 2, none⟩ = some (.int .u8 x2) := (World.cell?_alloc_lt _ _ _ (by simp; omega)).trans ((World.cell?_alloc_lt w _ _ hbB).trans c2)
  clear c0 c1 c2 c3 cl
  obtain ⟨N, hN⟩ : ∃ N, N = 4 + (n + 1) / 2 := ⟨_, rfl⟩
  obtain rfl : M = N := by omega
  have HS := Lib.hid hN.symm
  have hsI : (4 : Int) + ((n : Int) + 1) / 2 = (M : Int) := by omega
  have h5' : M ≤ 4005 := by omega
  clear hN ok1
  have hpar : (n : Int) % 2 = 0 ∨ ((n : Int) % 2 = 1 ∧ (xl % 16 != 0) = false) := by
    by_cases h : n % 2 = 1
    · exact .inr ⟨by omega, by have := ok4 h; simp [this]⟩
    · exact .inl (by omega)
  clear ok4
  have hword : ∃ v0 : Int, v0 = (256 * x0 + x1 + 32768) % 65536 - 32768 ∧ ((256 * x0 + x1 ≤ 32767 ∧ 256 * x0 + x1 = v0) ∨ (32767 < 256 * x0 + x1 ∧ 256 * x0 + x1 - 65536 = v0)) := ⟨_, rfl, by omega⟩
  obtain ⟨V0, hV0, hword⟩ := hword
  have HH : Hid (Dlt.headS bs = (V0, x2)) := Lib.hid (by unfold Dlt.headS; rw [HX0.out, HX1.out, HX2.out, hV0])
  have HSV0 : Hid (Dlt.valid V0 x2 = true) := Lib.hid (by have h := HVAL.out; rw [HH.out] at h; exact h)
  clear hV0
  go_enter Try.func22, Try.ntmps22
  rcases hpar with hp | ⟨hp, hq⟩
  all_goals rcases hword with ⟨hw1, hw2⟩ | ⟨hw1, hw2⟩
  all_goals
    go_wp2_with fail
    go_quiet (fail)
    go_wp2_with fail
    try rw [hw2]
    go_loopw [9, 10] (fun u q wr => ∃ (k : Nat) (A' : Option Addr) (c' : Nat) (xs : List Value), k ≤ n ∧ q = .int .i64 k ∧ u = .slice A' k c' ∧ Owns wr (w.heap.size + 1 + 1) 24 1 A' k c' xs ∧ Hid (xs = (List.range k).map (fun j => Value.int .i16 (Dlt.dAt (V0, x2) bs (j + 1)).1)) ∧
        Blk wr w.heap.size 23 #[.int .i64 0, .int .i64 0] ∧ Blk wr (w.heap.size + 1) 23 #[.int .i64 (Dlt.dAt (V0, x2) bs k).1, .int .i64 (Dlt.dAt (V0, x2) bs k).2] ∧ Below w.heap.size w wr)
      (fun _ q _ => n - (intOf q).toNat)
    case atStart =>
      refine ⟨0, none, 0, [], Nat.zero_le _, rfl, rfl, Owns.nil, Lib.hid rfl, ?_, ?_, ?_⟩
      · exact (Blk.new w _ _).alloc _
      · have h := Blk.new (w.alloc (.cells #[.int .i64 0, .int .i64 0] 23)) 23 #[.int .i64 V0, .int .i64 x2]
        rw [show (w.alloc (.cells #[.int .i64 0, .int .i64 0] 23)).heap.size = w.heap.size + 1 by simp] at h
        exact h
      · exact below_drewN (((Below.refl _ w).alloc (Nat.le_refl _) _).alloc (by simp) _) _
    case round =>
      obtain ⟨k, A', c', xs, hk, rfl, rfl, hown, HX, B0, B1, hb⟩ := hrel
      have HSV := Lib.hid (Dlt.dAt_valid (V0, x2) HSV0.out bs k)
      have HNX : Hid (Dlt.dAt (V0, x2) bs (k + 1) = (Dlt.nextV (Dlt.dAt (V0, x2) bs k).1 (Dlt.dAt (V0, x2) bs k).2 (Dlt.nib bs k), Dlt.nextI (Dlt.dAt (V0, x2) bs k).2 (Dlt.nib bs k))) := Lib.hid rfl
      by_cases hlt : k < n
      · have hM6 : 4 + k / 2 < M := by have := HS.out; omega
        have hck : wr.cell? ⟨b, off + (4 + k / 2), none⟩ = some (.int .u8 (bs.getD (4 + k / 2) 0)) := (hb.cell (p := ⟨b, off + (4 + k / 2), none⟩) hbB).trans (HCELL.out _ hM6)
        have hzk := HZ.out.at (i := 4 + k / 2) (by rw [HMM.out]; exact hM6)
        have hnib : Dlt.nib bs k = if k % 2 = 0 then bs.getD (4 + k / 2) 0 / 16 else bs.getD (4 + k / 2) 0 % 16 := rfl
        generalize bs.getD (4 + k / 2) 0 = x at hck hzk hnib
        obtain ⟨z0, z1⟩ := hzk
        generalize hc : Dlt.nib bs k = c at *
        generalize hV : (Dlt.dAt (V0, x2) bs k).1 = V at *
        generalize hI : (Dlt.dAt (V0, x2) bs k).2 = I at *
        have HC := Lib.hid hnib
        have c0 := B1.at 0 _ rfl
        have c1 := B1.at 1 _ rfl
        have f0 := B1.frozen 0
        have f1 := B1.frozen 1
        have HB0 := Lib.hid B0
        have HB1 := Lib.hid B1
        have HO := Lib.hid hown
        have HB := Lib.hid hb
        have hn0 : (0 : Int) ≤ 4 + (k : Int) / 2 := by omega
        have hn2 : 4 + (k : Int) / 2 < (M : Int) := by omega
        have hn3 : (4 + (k : Int) / 2).toNat = 4 + k / 2 := by omega
        have hk0 : (0 : Int) ≤ (k : Int) := by omega
        have hk1 : (k : Int) < (n : Int) := by omega
        clear B0 B1 hown hb hV hI hc hnib
        by_cases hpar : k % 2 = 0
        · have hpar' : (k : Int) % 2 = 0 := by omega
          have hce : x / 16 = c := by have := HC.out; rw [if_pos hpar] at this; omega
          have HCE := Lib.hid hce
          clear hpar hce
          go_wp2_with fail
          refine (rNext_any V I _ _ HSV.out (by omega) (by omega)).mono ?_
          rintro e w6 ⟨rfl, hb6⟩
          rw [HCE.out]
          have HB06 := Lib.hid (HB0.out.later hb6)
          have HB16 := Lib.hid (HB1.out.later hb6)
          have HO6 := Lib.hid (HO.out.below hb6)
          have HBW6 := Lib.hid (HB.out.trans (hb6.mono HB.out.size))
          clear hb6 HB0 HB1 HO HB c0 c1 f0 f1 hck
          have c0 := HB16.out.at 0 _ rfl
          have c1 := HB16.out.at 1 _ rfl
          have f0 := HB16.out.frozen 0
          have f1 := HB16.out.frozen 1
          have hbs2 := HB16.out.lt
          have HO7 : Hid (Owns ((w6.setCell ⟨w.heap.size + 1, 0, none⟩ (.int .i64 (Dlt.nextV V I c))).setCell ⟨w.heap.size + 1, 1, none⟩ (.int .i64 (Dlt.nextI I c))) (w.heap.size + 1 + 1) 24 1 A' k c' xs) :=
            Lib.hid ((HO6.out.setCell (fun g hg => by have := (HO6.out.block g hg).1; simp; omega) _).setCell (fun g hg => by have := (HO6.out.block g hg).1; simp; omega) _)
          have HSZ : Hid (((w6.setCell ⟨w.heap.size + 1, 0, none⟩ (.int .i64 (Dlt.nextV V I c))).setCell ⟨w.heap.size + 1, 1, none⟩ (.int .i64 (Dlt.nextI I c))).heap.size = w6.heap.size) := Lib.hid (by simp [World.setCell])
          obtain ⟨nv0, nv1⟩ := Dlt.nextV_bd V I c
          go_wp2_with (at_builtin; go_loud (refine wpList_append_one rfl _ _ 36 rfl (w.heap.size + 1 + 1) 24 1 2 (.int .i16 0) Try.underlying36 info_i16 rfl (by decide) A' k c' xs rfl HO7.out [.int .i16 (Dlt.nextV V I c)] rfl (by simp [Value.oneCell']) (by rw [HSZ.out]; rfl) (by unfold maxLen; omega) (by omega) (by rw [HSZ.out]; omega) ?_); intro A2 c2 w2 hown2 hg2 hlt2)
          go_roundw
          case rel =>
            refine ⟨k + 1, A2, c2, _, by omega, by go_num, rfl, hown2, Lib.hid ?_, ?_, ?_, ?_⟩
            · rw [HX.out, List.range_succ, List.map_append, List.map_singleton, HNX.out]
            · exact ((HB06.out.far (by simp) _).far (by simp) _).grown hg2 (fun h => by have := (HO7.out.block _ h.symm).1; omega)
            · rw [HNX.out]
              exact ((HB16.out.set_ 0 _).set_ 1 _).grown hg2 (fun h => by have := (HO7.out.block _ h.symm).1; omega)
            · exact below_own ((HBW6.out.setCell (by simp) _).setCell (by simp) _) HO7.out hg2 (by simp; omega) (by omega)
          case measure => simp [intOf]; omega
        · have hpar' : (k : Int) % 2 = 1 := by omega
          have hce : x % 16 = c := by have := HC.out; rw [if_neg hpar] at this; omega
          have HCE := Lib.hid hce
          clear hpar hce
          go_wp2_with fail
          refine (rNext_any V I _ _ HSV.out (by omega) (by omega)).mono ?_
          rintro e w6 ⟨rfl, hb6⟩
          rw [HCE.out]
          have HB06 := Lib.hid (HB0.out.later hb6)
          have HB16 := Lib.hid (HB1.out.later hb6)
          have HO6 := Lib.hid (HO.out.below hb6)
          have HBW6 := Lib.hid (HB.out.trans (hb6.mono HB.out.size))
          clear hb6 HB0 HB1 HO HB c0 c1 f0 f1 hck
          have c0 := HB16.out.at 0 _ rfl
          have c1 := HB16.out.at 1 _ rfl
          have f0 := HB16.out.frozen 0
          have f1 := HB16.out.frozen 1
          have hbs2 := HB16.out.lt
          have HO7 : Hid (Owns ((w6.setCell ⟨w.heap.size + 1, 0, none⟩ (.int .i64 (Dlt.nextV V I c))).setCell ⟨w.heap.size + 1, 1, none⟩ (.int .i64 (Dlt.nextI I c))) (w.heap.size + 1 + 1) 24 1 A' k c' xs) :=
            Lib.hid ((HO6.out.setCell (fun g hg => by have := (HO6.out.block g hg).1; simp; omega) _).setCell (fun g hg => by have := (HO6.out.block g hg).1; simp; omega) _)
          have HSZ : Hid (((w6.setCell ⟨w.heap.size + 1, 0, none⟩ (.int .i64 (Dlt.nextV V I c))).setCell ⟨w.heap.size + 1, 1, none⟩ (.int .i64 (Dlt.nextI I c))).heap.size = w6.heap.size) := Lib.hid (by simp [World.setCell])
          obtain ⟨nv0, nv1⟩ := Dlt.nextV_bd V I c
          go_wp2_with (at_builtin; go_loud (refine wpList_append_one rfl _ _ 36 rfl (w.heap.size + 1 + 1) 24 1 2 (.int .i16 0) Try.underlying36 info_i16 rfl (by decide) A' k c' xs rfl HO7.out [.int .i16 (Dlt.nextV V I c)] rfl (by simp [Value.oneCell']) (by rw [HSZ.out]; rfl) (by unfold maxLen; omega) (by omega) (by rw [HSZ.out]; omega) ?_); intro A2 c2 w2 hown2 hg2 hlt2)
          go_roundw
          case rel =>
            refine ⟨k + 1, A2, c2, _, by omega, by go_num, rfl, hown2, Lib.hid ?_, ?_, ?_, ?_⟩
            · rw [HX.out, List.range_succ, List.map_append, List.map_singleton, HNX.out]
            · exact ((HB06.out.far (by simp) _).far (by simp) _).grown hg2 (fun h => by have := (HO7.out.block _ h.symm).1; omega)
            · rw [HNX.out]
              exact ((HB16.out.set_ 0 _).set_ 1 _).grown hg2 (fun h => by have := (HO7.out.block _ h.symm).1; omega)
            · exact below_own ((HBW6.out.setCell (by simp) _).setCell (by simp) _) HO7.out hg2 (by simp; omega) (by omega)
          case measure => simp [intOf]; omega
      · obtain rfl : k = n := by omega
        have HB0 := Lib.hid B0
        have HB1 := Lib.hid B1
        have HO := Lib.hid hown
        have HB := Lib.hid hb
        have HHH := Lib.hid (show Dlt.headS bs = (V0, x2) from HH.out)
        generalize hV : (Dlt.dAt (V0, x2) bs k).1 = V at *
        generalize hI : (Dlt.dAt (V0, x2) bs k).2 = I at *
        have HV := Lib.hid hV
        have HI := Lib.hid hI
        have c0 := B1.at 0 _ rfl
        have c1 := B1.at 1 _ rfl
        have d0 := B0.at 0 _ rfl
        have d1 := B0.at 1 _ rfl
        have f0 := B0.frozen 0
        have f1 := B0.frozen 1
        clear B0 B1 hown hb hV hI
        go_wp2
        go_region
        go_wp2
        refine bodyPost_ret (v := .tuple #[.slice A' k c', .agg #[.int .i64 V, .int .i64 I], .int .u8 0]) (by simp [results, Try.results22, go_sem, d0, d1]) rfl ?_
        refine ⟨A', c', by rw [HHH.out, HV.out, HI.out], ?_, ?_⟩
        · have h : Owns _ (w.heap.size + 1 + 1) 24 1 A' k c' xs := ((HO.out.setCell (p := ⟨w.heap.size, 0, none⟩) (fun g' hg => by have := (HO.out.block _ hg).1; simp; omega) (.int .i64 V)).setCell (p := ⟨w.heap.size, 1, none⟩) (fun g' hg => by have := (HO.out.block _ hg).1; simp; omega) (.int .i64 I)).drew
          have e : xs = (Dlt.unpackL bs k).map (Value.int .i16) := by rw [HX.out, Dlt.unpackL, HHH.out, List.map_map]; rfl
          rw [e] at h
          exact h.ints
        · exact ((HB.out.setCell (by simp) _).setCell (by simp) _).drew
end Go.Proofs.Ytcnijhcoifodpaa
