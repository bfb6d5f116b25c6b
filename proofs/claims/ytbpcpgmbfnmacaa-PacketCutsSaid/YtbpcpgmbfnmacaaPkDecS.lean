/- Layer 25: what Decode answers, in plain words. Layer 25: padding of the program. Layer 25: Decode: what it leaves, and what stays of memory while the program's reads. Layer 25: Decode of the program: what it refuses at the head. -/
import Derived.Test.YtbpcpgmbfnmacaaPkNext
import Derived.WalkMore
import Derived.Deep.LoopGhost
import Derived.Laws.Rows
import Derived.BigQuiet
import Derived.Deep.QuietTactic
import Derived.Deep.CutRange
import Derived.Deep.DeepCutAuto
import Derived.RegionCalls
import Derived.Deep.RegionWith
import Derived.Deep.RegionHeld3
namespace Go.Proofs.Ytbpcpgmbfnmacaa
open Go.RowKit
set_option linter.unusedVariables false
set_option linter.unusedSimpArgs false
attribute [local go_sem] setCell_drewN alloc_drewN
namespace Pk
/-- the first place from i on, of k places, where no zero lies -/
def bad (bs : List Int) : Nat → Nat → Option Nat
  | _, 0 => none
  | i, k + 1 => if bs.getD i 0 = 0 then bad bs (i + 1) k else some i
def padOf (n : Int) : Option Nat → Int × Int × Int
  | none => (n, 0, 0)
  | some i => (0, i, 5)
/-- what padding answers -/
def padR (bs : List Int) : Int × Int × Int :=
  if bs.length = 0 then (0, -1, 5) else
  if bs.getD (bs.length - 1) 0 = 0 ∨ (bs.length : Int) < bs.getD (bs.length - 1) 0 then (0, (bs.length : Int) - 1, 5) else
  padOf (bs.getD (bs.length - 1) 0) (bad bs (bs.length - (bs.getD (bs.length - 1) 0).toNat) ((bs.getD (bs.length - 1) 0).toNat - 1))
theorem bad_step0 (bs : List Int) (i k : Nat) (hk : 0 < k) (h : bs.getD i 0 = 0) : bad bs i k = bad bs (i + 1) (k - 1) := by
  obtain ⟨q, rfl⟩ : ∃ q, k = q + 1 := ⟨k - 1, by omega⟩
  show (if bs.getD i 0 = 0 then _ else _) = _
  rw [if_pos h]; rfl
theorem bad_step1 (bs : List Int) (i k : Nat) (hk : 0 < k) (h : bs.getD i 0 ≠ 0) : bad bs i k = some i := by
  obtain ⟨q, rfl⟩ : ∃ q, k = q + 1 := ⟨k - 1, by omega⟩
  show (if bs.getD i 0 = 0 then _ else _) = _
  rw [if_neg h]
def many (bs : List Int) : Nat := (bs.getD 0 0 % 16).toNat
def ext (bs : List Int) : Bool := decide (bs.getD 0 0 / 16 % 2 = 1)
def extN (bs : List Int) : Nat := (4 * fld bs (14 + 4 * many bs) 2).toNat
def bodyAt (bs : List Int) : Nat := if ext bs then 16 + 4 * many bs + extN bs else 12 + 4 * many bs
def Pkt.zero : Pkt := ⟨false, 0, 0, 0, 0, [], false, 0, [], [], 0⟩
/-- the packet whose last n bytes are padding -/
def pkt (bs : List Int) (n : Nat) : Pkt :=
  ⟨decide (128 ≤ bs.getD 1 0), bs.getD 1 0 % 128, fld bs 2 2, fld bs 4 4, fld bs 8 4, (List.range (many bs)).map (fun i => fld bs (12 + 4 * i) 4), ext bs,
   if ext bs then fld bs (12 + 4 * many bs) 2 else 0, if ext bs then (bs.drop (16 + 4 * many bs)).take (extN bs) else [],
   (bs.drop (bodyAt bs)).take (bs.length - bodyAt bs - n), n⟩
def fin (bs : List Int) (n : Nat) : Pkt × Int × Int :=
  if 1500 < bs.length - bodyAt bs - n then (Pkt.zero, bodyAt bs, 4) else (pkt bs n, 0, 0)
theorem bad_lt (bs : List Int) : ∀ (k i j : Nat), bad bs i k = some j → i ≤ j ∧ j < i + k
  | 0, i, j, h => by cases h
  | k + 1, i, j, h => by
    unfold bad at h
    by_cases h0 : bs.getD i 0 = 0
    · rw [if_pos h0] at h
      have := bad_lt bs k (i + 1) j h
      omega
    · rw [if_neg h0] at h
      injection h with h
      omega
theorem padR_ok (l : List Int) (hz : Within 0 255 l) (h : (padR l).2.2 = 0) : ∃ N : Nat, (padR l).1 = (N : Int) ∧ 1 ≤ N ∧ N ≤ l.length := by
  unfold padR at h ⊢
  by_cases h1 : l.length = 0
  · rw [if_pos h1] at h; cases h
  rw [if_neg h1] at h ⊢
  by_cases h2 : l.getD (l.length - 1) 0 = 0 ∨ (l.length : Int) < l.getD (l.length - 1) 0
  · rw [if_pos h2] at h; cases h
  rw [if_neg h2] at h ⊢
  obtain ⟨z0, z1⟩ := hz.at (i := l.length - 1) (by omega)
  generalize bad l _ _ = o at *
  cases o with
  | none => exact ⟨(l.getD (l.length - 1) 0).toNat, by show l.getD (l.length - 1) 0 = _; omega, by omega, by omega⟩
  | some j => cases h
theorem padR_err (l : List Int) (h : (padR l).2.2 ≠ 0) : -1 ≤ (padR l).2.1 ∧ (padR l).2.1 ≤ l.length := by
  unfold padR at h ⊢
  by_cases h1 : l.length = 0
  · rw [if_pos h1] at h ⊢; simp
  rw [if_neg h1] at h ⊢
  by_cases h2 : l.getD (l.length - 1) 0 = 0 ∨ (l.length : Int) < l.getD (l.length - 1) 0
  · rw [if_pos h2]; simp only; omega
  rw [if_neg h2] at h ⊢
  cases hb : bad l (l.length - (l.getD (l.length - 1) 0).toNat) ((l.getD (l.length - 1) 0).toNat - 1) with
  | none => rw [hb] at h; exact absurd rfl h
  | some j =>
    have := bad_lt l _ _ _ hb
    show -1 ≤ (j : Int) ∧ (j : Int) ≤ l.length
    omega
/-- .. where the padding mark is set -/
def decP (bs : List Int) : Pkt × Int × Int :=
  if (padR (bs.drop (bodyAt bs))).2.2 ≠ 0 then (Pkt.zero, (bodyAt bs : Int) + (padR (bs.drop (bodyAt bs))).2.1, (padR (bs.drop (bodyAt bs))).2.2)
  else fin bs (padR (bs.drop (bodyAt bs))).1.toNat
/-- what Decode answers -/
def dec (bs : List Int) : Pkt × Int × Int :=
  if (chk bs).2 ≠ 0 then (Pkt.zero, (chk bs).1, (chk bs).2) else
  if bs.getD 0 0 / 32 % 2 = 1 then decP bs else fin bs 0
end Pk
open Go.RowKit
set_option linter.unusedVariables false
set_option linter.unusedSimpArgs false
attribute [local go_sem] setCell_drewN alloc_drewN
theorem ret_v3 {a b c a' b' c' : Value} (h1 : a = a') (h2 : b = b') (h3 : c = c') : Ending.returned (.tuple #[a, b, c]) = .returned (.tuple #[a', b', c']) := by rw [h1, h2, h3]
section
variable (A : Option Addr) (bs : List Int) (c : Nat) (w : World)
set_option maxRecDepth 100000 in
set_option maxHeartbeats 800000 in
theorem padding_empty (hA : IntsAt w w.heap.size .u8 A bs) (hz : Within 0 255 bs) (hm : bs.length ≤ 100000) (h : bs.length = 0) : Calls Try.prog 34 #[.slice A bs.length c] w fun e w' => e = .returned (.tuple #[.int .i64 (((0 : Int), (-1 : Int), (5 : Int))).1, .int .i64 (((0 : Int), (-1 : Int), (5 : Int))).2.1, .int .u8 (((0 : Int), (-1 : Int), (5 : Int))).2.2]) ∧ w = w' := by
  obtain rfl := List.eq_nil_of_length_eq_zero h
  clear hA hz h
  go_enter Try.func34, Try.ntmps34
  go_outline
  go_wp2
  go_step3
  go_wp2
  try rw [Exit.noGoto_ret]
  go_ret3
  exact ⟨rfl, rfl⟩
set_option maxRecDepth 100000 in
set_option maxHeartbeats 800000 in
theorem padding_wrong (hA : IntsAt w w.heap.size .u8 A bs) (hz : Within 0 255 bs) (hm : bs.length ≤ 100000) (h : 0 < bs.length) (hN : bs.getD (bs.length - 1) 0 = 0 ∨ (bs.length : Int) < bs.getD (bs.length - 1) 0) : Calls Try.prog 34 #[.slice A bs.length c] w fun e w' => e = .returned (.tuple #[.int .i64 (((0 : Int), (bs.length : Int) - 1, (5 : Int))).1, .int .i64 (((0 : Int), (bs.length : Int) - 1, (5 : Int))).2.1, .int .u8 (((0 : Int), (bs.length : Int) - 1, (5 : Int))).2.2]) ∧ w = w' := by
  obtain ⟨b, off, rfl, hbB, hcell⟩ := hA (by omega)
  obtain ⟨M, hM⟩ : ∃ M, bs.length = M + 1 := ⟨bs.length - 1, by omega⟩
  have hM1 : bs.length - 1 = M := by omega
  have q0 : w.cell? ⟨b, off + M, none⟩ = some (.int .u8 (bs.getD M 0)) := hcell M (by omega)
  obtain ⟨m0, n0⟩ := hz.at (i := M) (by omega)
  rw [hM1] at hN
  generalize bs.getD M 0 = x at *
  have t1 : ((bs.length : Int) - 1).toNat = M := by omega
  have hl1 : ¬bs.length = 0 := by omega
  have hl2 : ¬bs = [] := by intro h5; rw [h5] at hl1; exact hl1 rfl
  have hl3 : (0 : Int) < (bs.length : Int) := by omega
  clear hcell hz hA hM hM1 h
  have hx : (x = 0) ∨ (x == 0) = false ∧ (bs.length : Int) < x := by
    by_cases h0 : x = 0
    · exact Or.inl h0
    · exact Or.inr ⟨by simpa using h0, by omega⟩
  clear hN
  rcases hx with rfl | ⟨h0, h1⟩
  all_goals
    go_enter Try.func34, Try.ntmps34
    go_wp2
    go_step3
    go_wp2
    try rw [Exit.noGoto_ret]
    go_ret3
    exact ⟨rfl, rfl⟩
set_option maxRecDepth 100000 in
set_option maxHeartbeats 800000 in
theorem padding_loop (hA : IntsAt w w.heap.size .u8 A bs) (hz : Within 0 255 bs) (hm : bs.length ≤ 100000) (N : Nat) (n1 : 1 ≤ N) (n2 : N ≤ bs.length) (hN : bs.getD (bs.length - 1) 0 = (N : Int)) : Calls Try.prog 34 #[.slice A bs.length c] w fun e w' => e = .returned (.tuple #[.int .i64 ((Pk.padOf N (Pk.bad bs (bs.length - N) (N - 1)))).1, .int .i64 ((Pk.padOf N (Pk.bad bs (bs.length - N) (N - 1)))).2.1, .int .u8 ((Pk.padOf N (Pk.bad bs (bs.length - N) (N - 1)))).2.2]) ∧ w = w' := by
  obtain ⟨b, off, rfl, hbB, hcell⟩ := hA (by omega)
  obtain ⟨M, hM⟩ : ∃ M, bs.length = M + 1 := ⟨bs.length - 1, by omega⟩
  have hM1 : bs.length - 1 = M := by omega
  have q0 : w.cell? ⟨b, off + M, none⟩ = some (.int .u8 (bs.getD M 0)) := hcell M (by omega)
  obtain ⟨m0, n0⟩ := hz.at (i := M) (by omega)
  rw [hM1] at hN
  rw [hN] at q0 m0 n0
  obtain ⟨R, hR⟩ : ∃ R, R = Pk.bad bs (bs.length - N) (N - 1) := ⟨_, rfl⟩
  rw [← hR]
  have HR := Lib.hid hR
  have HCELL := Lib.hid hcell
  have HZ := Lib.hid hz
  have HM := Lib.hid hM
  have t1 : ((bs.length : Int) - 1).toNat = M := by omega
  have hl1 : ¬bs.length = 0 := by omega
  have hl2 : ¬bs = [] := by intro h5; rw [h5] at hl1; exact hl1 rfl
  have hl3 : (0 : Int) < (bs.length : Int) := by omega
  have b1 : ((N : Int) == 0) = false := by simp; omega
  have b2 : (N : Int) ≤ (bs.length : Int) := by omega
  have b3 : (1 : Int) ≤ (N : Int) := by omega
  have b4 : decide (bs.length < N) = false := by simp; omega
  have b5 : ((bs.length : Int) == 0) = false := by simp; exact hl2
  clear hR hcell hz hM hA hN hM1
  go_enter Try.func34, Try.ntmps34
  go_wp2
  go_step3
  go_wp2
  go_step3
  go_wp2_with fail
  go_loopg [3, 6] (N - 1) (fun gk s3 s6 wr => ∃ k : Nat, gk + k = N - 1 ∧ s3 = .int .i64 (-1) ∧ s6 = .int .i64 ((bs.length : Int) - N + k) ∧ Hid (R = Pk.bad bs (bs.length - N + k) (N - 1 - k)) ∧ Hid (wr = w))
  case atStart => exact ⟨0, rfl, rfl, by go_num, Lib.hid (by rw [HR.out]; rfl), Lib.hid rfl⟩
  case round =>
    clear HR
    obtain ⟨k, hgk, rfl, rfl, HR, HW⟩ := hrel
    obtain rfl := HW.out
    have i0 : (0 : Int) ≤ (bs.length : Int) - N + k := by omega
    have i2 : ((bs.length : Int) - N + k).toNat = bs.length - N + k := by omega
    have i3 : (bs.length : Int) - N + k ≤ 100000 := by omega
    by_cases hlt : k < N - 1
    · have i1 : (bs.length : Int) - N + k < (bs.length : Int) - 1 := by omega
      have i4 : (bs.length : Int) - N + k < (bs.length : Int) := by omega
      have c0 := HCELL.out (bs.length - N + k) (by omega)
      obtain ⟨z0, z1⟩ := HZ.out.at (i := bs.length - N + k) (by omega)
      have hkk : Hid (0 < N - 1 - k) := Lib.hid (by omega)
      by_cases hz : bs.getD (bs.length - N + k) 0 = 0
      · have HS := Lib.hid (HR.out.trans (Pk.bad_step0 bs _ _ hkk.out hz))
        rw [hz] at c0
        clear HR hz z0 z1
        go_wp2_with fail
        go_roundg (gk - 1)
        case measure => omega
        case rel =>
          refine ⟨k + 1, by omega, rfl, by go_num, ?_, Lib.hid rfl⟩
          exact Lib.hid (HS.out.trans (by rw [Nat.add_assoc, Nat.sub_sub]))
      · have HS := Lib.hid (HR.out.trans (Pk.bad_step1 bs _ _ hkk.out hz))
        have hz2 : (bs.getD (bs.length - N + k) 0 == 0) = false := by simpa using hz
        have hp : Hid (((bs.length - N + k : Nat) : Int) = (bs.length : Int) - N + k) := Lib.hid (by omega)
        have hR : R = some (bs.length - N + k) := HS.out
        subst hR
        clear HR hz HS
        generalize bs.getD (bs.length - N + k) 0 = z at *
        go_wp2_with fail
        try rw [Exit.noGoto_ret]
        go_ret3
        unfold Pk.padOf
        exact ⟨ret_v3 rfl (congrArg (Value.int .i64) hp.out.symm) rfl, rfl⟩
    · have i1 : (bs.length : Int) - 1 ≤ (bs.length : Int) - N + k := by omega
      have hR : R = none := by rw [HR.out, show N - 1 - k = 0 by omega]; rfl
      subst hR
      clear HR
      go_wp2_with fail
      try rw [Exit.noGoto_ret]
      go_ret3
      exact ⟨rfl, rfl⟩
theorem padding_any (hA : IntsAt w w.heap.size .u8 A bs) (hz : Within 0 255 bs) (hm : bs.length ≤ 100000) : Calls Try.prog 34 #[.slice A bs.length c] w fun e w' => e = .returned (.tuple #[.int .i64 (Pk.padR bs).1, .int .i64 (Pk.padR bs).2.1, .int .u8 (Pk.padR bs).2.2]) ∧ w = w' := by
  unfold Pk.padR
  by_cases h : bs.length = 0
  · rw [if_pos h]; exact padding_empty A bs c w hA hz hm h
  rw [if_neg h]
  by_cases h2 : bs.getD (bs.length - 1) 0 = 0 ∨ (bs.length : Int) < bs.getD (bs.length - 1) 0
  · rw [if_pos h2]; exact padding_wrong A bs c w hA hz hm (by omega) h2
  rw [if_neg h2]
  obtain ⟨z0, z1⟩ := hz.at (i := bs.length - 1) (by omega)
  obtain ⟨N, hN⟩ : ∃ N : Nat, bs.getD (bs.length - 1) 0 = (N : Int) := ⟨_, (Int.toNat_of_nonneg z0).symm⟩
  have := padding_loop A bs c w hA hz hm N (by omega) (by omega) hN
  rw [hN, Int.toNat_natCast]
  exact this
end
open Go.RowKit
set_option linter.unusedVariables false
set_option linter.unusedSimpArgs false
attribute [local go_sem] setCell_drewN alloc_drewN
def Pk.Pkt.row (r : Pk.Pkt) (Mx : Option Addr) (cm : Nat) (Et : Option Addr) (ce : Nat) (Pl : Option Addr) (cp : Nat) : List Value := [.bool r.mark, .int .u8 r.ty, .int .u16 r.sq, .int .u32 r.ti, .int .u32 r.so, .slice Mx r.mx.length cm, .bool r.ex, .int .u16 r.ek, .slice Et r.et.length ce, .slice Pl r.pl.length cp, .int .i64 r.pad]
/-- what Decode leaves -/
def PDecR (R : Pk.Pkt × Int × Int) (w : World) (e : Ending) (w' : World) : Prop :=
  ∃ (Mx : Option Addr) (cm : Nat) (Et : Option Addr) (ce : Nat) (Pl : Option Addr) (cp : Nat), e = .returned (.tuple #[.agg (R.1.row Mx cm Et ce Pl cp).toArray, .int .i64 R.2.1, .int .u8 R.2.2]) ∧ IntsNew w.heap.size w' .u32 Mx R.1.mx ∧ IntsNew w.heap.size w' .u8 Et R.1.et ∧ IntsNew w.heap.size w' .u8 Pl R.1.pl ∧ Bel w w'
theorem Only.undrew {g : Nat} {W w' : World} (h : Only g W.drew w') : Only g W w' := ⟨⟨h.1.os, h.1.tape, h.1.output, h.1.size, h.1.block⟩, h.2⟩
theorem IntsNew.only {g n : Nat} {w w' : World} {k : IntKind} {A : Option Addr} {zs : List Int} (h : IntsNew n w k A zs) (ho : Only g w w') (hg : g < n) : IntsNew n w' k A zs := by
  refine ⟨fun h0 => ?_, h.2⟩
  obtain ⟨b, off, rfl, hb, hc⟩ := h.1 h0
  refine ⟨b, off, rfl, by rw [ho.2]; exact hb, fun i hi => ho.cell (hc i hi) ?_⟩
  have := h.2 h0 b off rfl
  simp only
  omega
theorem own_only {w w' : World} {base size n c g : Nat} {e : TypeId} {A : Option Addr} {xs : List Value} (h : Owns w base e size A n c xs) (ho : Only g w w') (hg : g < base) : Owns w' base e size A n c xs :=
  h.grown ho.1 (fun b e2 e3 => by injection e3 with e3; have := (h.block b e2).1; omega)
/-- while Decode reads: the bytes, the place, the packet that is being filled, what it has of slices -/
structure PState (w wx : World) (b off c : Nat) (bs : List Int) (p : Nat) (row : List Value) (Mx : Option Addr) (mx : List Int) (Et : Option Addr) (et : List Int) : Prop where
  ints : IntsAt w w.heap.size .u8 (some ⟨b, off, none⟩) bs
  bytes : Within 0 255 bs
  len : bs.length ≤ 100000
  cap : bs.length ≤ c
  hr : Blk wx (w.heap.size + 2) 27 row.toArray
  hg : ∃ o', Blk wx (w.heap.size + 1) 25 #[.slice (some ⟨b, o', none⟩) (bs.length - p) (c - p)] ∧ (p < c → o' = off + p)
  hz : Blk wx w.heap.size 27 #[.bool false, .int .u8 0, .int .u16 0, .int .u32 0, .int .u32 0, .slice none 0 0, .bool false, .int .u16 0, .slice none 0 0, .slice none 0 0, .int .i64 0]
  hu : Bel w wx
  hs : w.heap.size + 3 ≤ wx.heap.size
  hm : IntsNew (w.heap.size + 3) wx .u32 Mx mx
  he : IntsNew (w.heap.size + 3) wx .u8 Et et
section
variable {w wx w' : World} {b off c p : Nat} {bs : List Int} {row : List Value} {Mx Et : Option Addr} {mx et : List Int}
theorem PState.grown (h : PState w wx b off c bs p row Mx mx Et et) {r : Option Nat} (hg : wx.grownBy w' r) (hr : ∀ g, r = some g → w.heap.size + 3 ≤ g) (hm : IntsNew (w.heap.size + 3) w' .u32 Mx mx) (he : IntsNew (w.heap.size + 3) w' .u8 Et et) : PState w w' b off c bs p row Mx mx Et et :=
  have hne : ∀ g, g < w.heap.size + 3 → some g ≠ r := fun g hlt e => by have := hr g e.symm; omega
  ⟨h.ints, h.bytes, h.len, h.cap, h.hr.grown hg (hne _ (by omega)), let ⟨o', hb, ho⟩ := h.hg; ⟨o', hb.grown hg (hne _ (by omega)), ho⟩, h.hz.grown hg (hne _ (by omega)), Below.grown h.hu hg h.hu.size (fun g e => by have := hr g e; omega), Nat.le_trans h.hs hg.size, hm, he⟩
theorem PState.later (h : PState w wx b off c bs p row Mx mx Et et) (hb : Below wx.heap.size wx w') : PState w w' b off c bs p row Mx mx Et et :=
  ⟨h.ints, h.bytes, h.len, h.cap, h.hr.later hb, let ⟨o', hg, ho⟩ := h.hg; ⟨o', hg.later hb, ho⟩, h.hz.later hb, h.hu.later hb, Nat.le_trans h.hs hb.size, h.hm.later hb, h.he.later hb⟩
theorem PState.push (h : PState w wx b off c bs p row Mx mx Et et) (o : Obj) : PState w (wx.alloc o) b off c bs p row Mx mx Et et :=
  h.later ((Below.refl _ _).alloc (Nat.le_refl _) o)
theorem PState.drew (h : PState w wx b off c bs p row Mx mx Et et) : PState w wx.drew b off c bs p row Mx mx Et et := ⟨h.ints, h.bytes, h.len, h.cap, h.hr, h.hg, h.hz, Bel.drew h.hu, h.hs, h.hm, h.he⟩
theorem PState.set (h : PState w wx b off c bs p row Mx mx Et et) (i : Nat) (v : Value) : PState w (wx.setCell ⟨w.heap.size + 2, i, none⟩ v) b off c bs p (row.set i v) Mx mx Et et :=
  ⟨h.ints, h.bytes, h.len, h.cap, by have := h.hr.set_ i v; simpa using this, let ⟨o', hg, ho⟩ := h.hg; ⟨o', hg.far (by simp) v, ho⟩, h.hz.far (by simp) v, below_set_old h.hu (by simp) v, by have := h.hs; simpa [World.setCell] using this, h.hm.setCell (by simp) v, h.he.setCell (by simp) v⟩
theorem PState.setE (h : PState w wx b off c bs p row Mx mx Et et) {Et' : Option Addr} {et' : List Int} (he : IntsNew (w.heap.size + 3) wx .u8 Et' et') : PState w wx b off c bs p row Mx mx Et' et' :=
  ⟨h.ints, h.bytes, h.len, h.cap, h.hr, h.hg, h.hz, h.hu, h.hs, h.hm, he⟩
theorem PState.setM (h : PState w wx b off c bs p row Mx mx Et et) {Mx' : Option Addr} {mx' : List Int} (hm : IntsNew (w.heap.size + 3) wx .u32 Mx' mx') : PState w wx b off c bs p row Mx' mx' Et et :=
  ⟨h.ints, h.bytes, h.len, h.cap, h.hr, h.hg, h.hz, h.hu, h.hs, hm, h.he⟩
/-- what next leaves, in Decode -/
def PNext (b off n : Nat) (bs : List Int) (p q : Nat) (S : World → Nat → Prop) (w wx : World) (e : Ending) (w' : World) : Prop :=
  ∃ A' : Option Addr, e = .returned (.slice A' n n) ∧ (0 < n → A' = some ⟨b, off + p, none⟩) ∧ Only (w.heap.size + 1) wx w' ∧ Hid (IntsAt w' w.heap.size .u8 A' ((bs.drop p).take n)) ∧ Hid (S w' q)
theorem PState.next (h : PState w wx b off c bs p row Mx mx Et et) (n q : Nat) (hq : p + n = q) (hl : q ≤ bs.length) :
    Calls Try.prog 31 #[.int .i64 n, .pointer (some ⟨w.heap.size + 1, 0, none⟩)] wx (PNext b off n bs p q (fun w' q => PState w w' b off c bs q row Mx mx Et et) w wx) := by
  subst hq
  obtain ⟨o', hg, ho'⟩ := h.hg
  have hlen := h.len
  have hcap := h.cap
  refine (next_any (w.heap.size + 1) b o' (bs.length - p) (c - p) n wx hg (by omega) (by omega) (by omega)).mono ?_
  rintro e w1 ⟨rfl, ho, o2, hg2, ho2⟩
  have hu1 : Bel w w1 := ho.below h.hu (by omega)
  refine ⟨_, rfl, fun h0 => by rw [ho' (by omega)], ho, Lib.hid ?_, Lib.hid ⟨h.ints, h.bytes, h.len, h.cap, ho.blk h.hr (by omega), ⟨o2, ?_, fun hlt => ?_⟩, ho.blk h.hz (by omega), hu1, by rw [ho.2]; exact h.hs, h.hm.only ho (by omega), h.he.only ho (by omega)⟩⟩
  · by_cases h0 : n = 0
    · subst h0; exact IntsAt.nil
    · rw [ho' (by omega)]
      exact (h.ints.sub p n (by omega)).below hu1
  · rw [show bs.length - (p + n) = bs.length - p - n by omega, show c - (p + n) = c - p - n by omega]
    exact hg2
  · rw [ho2 (by omega), ho' (by omega), Nat.add_assoc]
end
theorem PState.intsx {w wx : World} {b off c p : Nat} {bs : List Int} {row : List Value} {Mx Et : Option Addr} {mx et : List Int} (h : PState w wx b off c bs p row Mx mx Et et) : IntsAt wx w.heap.size .u8 (some ⟨b, off, none⟩) bs := h.ints.below h.hu
theorem PState.byte {w wx : World} {b off c p : Nat} {bs : List Int} {row : List Value} {Mx Et : Option Addr} {mx et : List Int} (h : PState w wx b off c bs p row Mx mx Et et) (i : Nat) (hi : i < bs.length) : wx.cell? ⟨b, off + i, none⟩ = some (.int .u8 (bs.getD i 0)) := by
  obtain ⟨b', off', e, _, hc⟩ := h.intsx (by omega)
  cases e
  exact hc i hi
theorem PState.start {w : World} {b off c : Nat} {bs : List Int} (hA : IntsAt w w.heap.size .u8 (some ⟨b, off, none⟩) bs) (hz : Within 0 255 bs) (hm : bs.length ≤ 100000) (hc : bs.length ≤ c) : PState w (((w.alloc (.cells #[.bool false, .int .u8 0, .int .u16 0, .int .u32 0, .int .u32 0, .slice none 0 0, .bool false, .int .u16 0, .slice none 0 0, .slice none 0 0, .int .i64 0] 27)).alloc (.cells #[.slice (some ⟨b, off, none⟩) bs.length c] 25)).alloc (.cells #[.bool false, .int .u8 0, .int .u16 0, .int .u32 0, .int .u32 0, .slice none 0 0, .bool false, .int .u16 0, .slice none 0 0, .slice none 0 0, .int .i64 0] 27)) b off c bs 0 [.bool false, .int .u8 0, .int .u16 0, .int .u32 0, .int .u32 0, .slice none 0 0, .bool false, .int .u16 0, .slice none 0 0, .slice none 0 0, .int .i64 0] none [] none [] :=
  ⟨hA, hz, hm, hc, Blk.new2 w _ _ _ _, ⟨off, (Blk.new1 w _ _ _).push _, fun _ => rfl⟩, ((Blk.new w _ _).push _).push _, (((Bel.refl w).push _).push _).push _, by simp, IntsNew.nil, IntsNew.nil⟩
theorem chk_ok (bs : List Int) (hz : Within 0 255 bs) (h : (Pk.chk bs).2 = 0) : (Pk.chk bs).1 = 0 ∧ 12 + 4 * Pk.many bs ≤ bs.length ∧ bs.getD 0 0 % 16 = (Pk.many bs : Int) ∧ (Pk.ext bs = true → 16 + 4 * Pk.many bs + Pk.extN bs ≤ bs.length ∧ Pk.extN bs ≤ 1020 ∧ (Pk.extN bs : Int) = 4 * fld bs (14 + 4 * Pk.many bs) 2) := by
  unfold Pk.chk at h ⊢
  by_cases h1 : bs.length = 0
  · rw [if_pos h1] at h; cases h
  rw [if_neg h1] at h ⊢
  obtain ⟨z0, z1⟩ := hz.at (i := 0) (by omega)
  by_cases h2 : bs.getD 0 0 / 64 ≠ 2
  · rw [if_pos h2] at h; cases h
  rw [if_neg h2] at h ⊢
  by_cases h3 : (bs.length : Int) < 12 + 4 * (bs.getD 0 0 % 16)
  · rw [if_pos h3] at h; cases h
  rw [if_neg h3] at h ⊢
  have hmm : bs.getD 0 0 % 16 = (Pk.many bs : Int) := by unfold Pk.many; omega
  by_cases h4 : bs.getD 0 0 / 16 % 2 = 0
  · rw [if_pos h4]
    refine ⟨rfl, by omega, hmm, fun he => ?_⟩
    have := of_decide_eq_true he
    omega
  rw [if_neg h4] at h ⊢
  by_cases h5 : (bs.length : Int) < 12 + 4 * (bs.getD 0 0 % 16) + 4
  · rw [if_pos h5] at h; cases h
  rw [if_neg h5] at h ⊢
  have hmd : (bs.getD 0 0 % 16).toNat = Pk.many bs := rfl
  rw [hmd, hmm] at h ⊢
  rw [hmm] at h3 h5
  obtain ⟨f0, f1⟩ := fld_bd bs (14 + 4 * Pk.many bs) 2 hz (by omega)
  by_cases h6 : 1020 < 4 * fld bs (14 + 4 * Pk.many bs) 2
  · rw [if_pos h6] at h; cases h
  rw [if_neg h6] at h ⊢
  have hxn : (Pk.extN bs : Int) = 4 * fld bs (14 + 4 * Pk.many bs) 2 := by unfold Pk.extN; omega
  by_cases h7 : (bs.length : Int) < 12 + 4 * (Pk.many bs : Int) + 4 + 4 * fld bs (14 + 4 * Pk.many bs) 2
  · rw [if_pos h7] at h; cases h
  rw [if_neg h7] at h ⊢
  exact ⟨rfl, by omega, rfl, fun _ => ⟨by omega, by omega, hxn⟩⟩
theorem number_fld {W : World} {B b off : Nat} {bs : List Int} (hA : IntsAt W B .u8 (some ⟨b, off, none⟩) bs) (hz : Within 0 255 bs) (i m C : Nat) (hm : m ≤ 4) (hl : i + m ≤ bs.length) :
    Calls Try.prog 32 #[.slice (some ⟨b, off + i, none⟩) m C] W fun e w' => e = .returned (.int .u32 (fld bs i m)) ∧ W = w' :=
  number_any _ _ C W B (hA.sub i m hl) ((hz.drop i).take m) (by simp; omega) m (by simp; omega)
theorem number_part {W : World} {B : Nat} {A : Option Addr} {bs : List Int} {p m : Nat} (hA : IntsAt W B .u8 A ((bs.drop p).take m)) (hz : Within 0 255 bs) (C : Nat) (hm : m ≤ 4) (hl : p + m ≤ bs.length) :
    Calls Try.prog 32 #[.slice A m C] W fun e w' => e = .returned (.int .u32 (fld bs p m)) ∧ W = w' :=
  number_any _ _ C W B hA ((hz.drop p).take m) (by simp; omega) m (by simp; omega)
theorem clone_any {W : World} {B : Nat} {A : Option Addr} {l : List Int} (hA : IntsAt W B .u8 A l) (hB : B ≤ W.heap.size) (n C : Nat) (hn : l.length = n) (hl : n ≤ 100000) : Calls Try.prog 33 #[.slice A n C] W (CloneR l W) := by
  subst hn
  by_cases h0 : l.length = 0
  · obtain rfl := List.eq_nil_of_length_eq_zero h0
    exact clone_nil A C W
  · exact clone_some A l C W (hA.more hB) hl (by omega)
theorem fld_mod (bs : List Int) (p : Nat) (hb : Within 0 255 bs) (hl : p + 4 ≤ bs.length) : fld bs p 4 % 4294967296 = fld bs p 4 ∧ IntKind.u32.wrap (fld bs p 4) = fld bs p 4 := by
  obtain ⟨h1, h2⟩ := fld_bd bs p 4 hb hl
  have h : fld bs p 4 % 4294967296 = fld bs p 4 := Int.emod_eq_of_lt h1 h2
  exact ⟨h, by rw [u32_wrap, h]⟩
theorem fld_mod2 (bs : List Int) (p : Nat) (hb : Within 0 255 bs) (hl : p + 2 ≤ bs.length) : fld bs p 2 % 65536 = fld bs p 2 ∧ IntKind.u16.wrap (fld bs p 2) = fld bs p 2 ∧ 0 ≤ fld bs p 2 ∧ fld bs p 2 ≤ 65535 := by
  obtain ⟨h1, h2⟩ := fld_bd bs p 2 hb hl
  have h2' : fld bs p 2 < 65536 := h2
  have h : fld bs p 2 % 65536 = fld bs p 2 := Int.emod_eq_of_lt h1 h2
  exact ⟨h, by rw [u16_wrap, h], h1, by omega⟩
theorem and_32 (x : Int) (x0 : 0 ≤ x) (x1 : x ≤ 255) : bits BinOp.and IntKind.u8 x 32 = 32 * (x / 32 % 2) := by
  obtain ⟨n, rfl⟩ := Int.eq_ofNat_of_zero_le x0
  have h : ∀ i : Fin 256, bits BinOp.and IntKind.u8 (i.val : Int) 32 = 32 * ((i.val : Int) / 32 % 2) := by decide +kernel
  exact h ⟨n, by omega⟩
theorem and_127 (x : Int) (x0 : 0 ≤ x) (x1 : x ≤ 255) : bits BinOp.and IntKind.u8 x 127 = x % 128 := by
  obtain ⟨n, rfl⟩ := Int.eq_ofNat_of_zero_le x0
  have h : ∀ i : Fin 256, bits BinOp.and IntKind.u8 (i.val : Int) 127 = (i.val : Int) % 128 := by decide +kernel
  exact h ⟨n, by omega⟩
theorem and_128 (x : Int) (x0 : 0 ≤ x) (x1 : x ≤ 255) : (bits BinOp.and IntKind.u8 x 128 != 0) = decide (128 ≤ x) := by
  obtain ⟨n, rfl⟩ := Int.eq_ofNat_of_zero_le x0
  have h : ∀ i : Fin 256, (bits BinOp.and IntKind.u8 (i.val : Int) 128 != 0) = decide (128 ≤ (i.val : Int)) := by decide +kernel
  exact h ⟨n, by omega⟩
theorem info_u32 : (Try.prog.info? 23).map (fun i => (i.zero, i.size, i.bytes)) = some (some (.int .u32 0), 1, 4) := by kernel_rfl
theorem PState.rest {w wx : World} {b off c p : Nat} {bs : List Int} {row : List Value} {Mx Et : Option Addr} {mx et : List Int} (h : PState w wx b off c bs p row Mx mx Et et) : ∃ o', Blk wx (w.heap.size + 1) 25 #[.slice (some ⟨b, o', none⟩) (bs.length - p) (c - p)] ∧ IntsAt wx w.heap.size .u8 (some ⟨b, o', none⟩) (bs.drop p) := by
  obtain ⟨o', hg, ho⟩ := h.hg
  refine ⟨o', hg, ?_⟩
  by_cases h0 : p < bs.length
  · rw [ho (by have := h.cap; omega)]
    have := h.intsx.sub p (bs.length - p) (by omega)
    rwa [List.take_of_length_le (by simp)] at this
  · rw [List.drop_eq_nil_of_le (by omega)]
    exact IntsAt.nil
theorem padding_rest {W : World} {B : Nat} {A : Option Addr} {l : List Int} (hA : IntsAt W B .u8 A l) (hB : B ≤ W.heap.size) (hz : Within 0 255 l) (n C : Nat) (hn : l.length = n) (hl : n ≤ 100000) : Calls Try.prog 34 #[.slice A n C] W fun e w' => e = .returned (.tuple #[.int .i64 (Pk.padR l).1, .int .i64 (Pk.padR l).2.1, .int .u8 (Pk.padR l).2.2]) ∧ W = w' := by
  subst hn
  exact padding_any A l C W (hA.more hB) hz hl
def u32s (l : List Int) : List Value := l.map (Value.int .u32)
open Go.RowKit
set_option linter.unusedVariables false
set_option linter.unusedSimpArgs false
attribute [local go_sem] setCell_drewN alloc_drewN
section
variable (A : Option Addr) (bs : List Int) (c : Nat) (w : World)
set_option maxRecDepth 100000 in
set_option maxHeartbeats 6400000 in
theorem PDec_head (hA : IntsAt w w.heap.size .u8 A bs) (hz : Within 0 255 bs) (hm : bs.length ≤ 100000) (hc : bs.length ≤ c) (h : (Pk.chk bs).2 ≠ 0) : Calls Try.prog 15 #[.slice A bs.length c] w (PDecR (Pk.Pkt.zero, (Pk.chk bs).1, (Pk.chk bs).2) w) := by
  have k1 := checkHead_any A bs c (w.alloc (.cells #[.bool false, .int .u8 0, .int .u16 0, .int .u32 0, .int .u32 0, .slice none 0 0, .bool false, .int .u16 0, .slice none 0 0, .slice none 0 0, .int .i64 0] 27)) (hA.push _) hz hm hc
  generalize (Pk.chk bs).1 = at0 at *
  generalize (Pk.chk bs).2 = er at *
  have K := Lib.hid k1
  have h2 : (er != 0) = true := by simpa using h
  clear k1 hA hz h
  go_enter Try.func15, Try.ntmps15
  have U := Lib.hid (Bel.push (Bel.refl w) (.cells #[.bool false, .int .u8 0, .int .u16 0, .int .u32 0, .int .u32 0, .slice none 0 0, .bool false, .int .u16 0, .slice none 0 0, .slice none 0 0, .int .i64 0] 27))
  have B := Lib.hid (Blk.new w 27 #[.bool false, .int .u8 0, .int .u16 0, .int .u32 0, .int .u32 0, .slice none 0 0, .bool false, .int .u16 0, .slice none 0 0, .slice none 0 0, .int .i64 0])
  go_wp2_with fail
  refine K.out.mono ?_
  rintro e w1 ⟨rfl, rfl⟩
  go_wp2_with fail
  exact bodyPost_ret (v := .tuple #[.agg #[.bool false, .int .u8 0, .int .u16 0, .int .u32 0, .int .u32 0, .slice none 0 0, .bool false, .int .u16 0, .slice none 0 0, .slice none 0 0, .int .i64 0], .int .i64 at0, .int .u8 er]) (res_ctt Try.results15 rfl (run_loadVar_row (P := Try.prog) _ _ _ _ _ _ _ B.out Try.underlying27 rfl (by kernel_rfl)) rfl rfl) rfl ⟨none, 0, none, 0, none, 0, rfl, IntsNew.nil, IntsNew.nil, IntsNew.nil, U.out⟩
end
end Go.Proofs.Ytbpcpgmbfnmacaa
