/- Layer 25: Decode of the reference: what it refuses at the head; what stays of memory while it reads. -/
import Derived.Test.YtbpcpgmbfnmacaaPkDecA
import Derived.Test.YtbpcpgmbfnmacaaPkREncAll
import Derived.Test.YtbpcpgmbfnmacaaStep
import Derived.StillTailTactics
namespace Go.Proofs.Ytbpcpgmbfnmacaa
open Go.RowKit
set_option linter.unusedVariables false
set_option linter.unusedSimpArgs false
attribute [local go_sem] setCell_drewN alloc_drewN
theorem rvalue_fld {W : World} {B b off : Nat} {bs : List Int} (hA : IntsAt W B .u8 (some ⟨b, off, none⟩) bs) (hz : Within 0 255 bs) (i m C : Nat) (hm : m ≤ 4) (hl : i + m ≤ bs.length) :
    Calls Try.prog 35 #[.slice (some ⟨b, off + i, none⟩) m C] W fun e w' => e = .returned (.int .i64 (fld bs i m)) ∧ W = w' :=
  rvalue_any _ _ C W B (hA.sub i m hl) ((hz.drop i).take m) (by simp; omega) m (by simp; omega)
/-- while Decode of the reference reads -/
structure QState (w wx : World) (row : List Value) (Mx : Option Addr) (mx : List Int) (Et : Option Addr) (et : List Int) : Prop where
  hr : Blk wx (w.heap.size + 2) 27 row.toArray
  hn : Blk wx (w.heap.size + 1) 27 #[.bool false, .int .u8 0, .int .u16 0, .int .u32 0, .int .u32 0, .slice none 0 0, .bool false, .int .u16 0, .slice none 0 0, .slice none 0 0, .int .i64 0]
  hz : Blk wx w.heap.size 27 #[.bool false, .int .u8 0, .int .u16 0, .int .u32 0, .int .u32 0, .slice none 0 0, .bool false, .int .u16 0, .slice none 0 0, .slice none 0 0, .int .i64 0]
  hu : Bel w wx
  hs : w.heap.size + 3 ≤ wx.heap.size
  hm : IntsNew (w.heap.size + 3) wx .u32 Mx mx
  he : IntsNew (w.heap.size + 3) wx .u8 Et et
section
variable {w wx w' : World} {row : List Value} {Mx Et : Option Addr} {mx et : List Int}
theorem QState.grown (h : QState w wx row Mx mx Et et) {r : Option Nat} (hg : wx.grownBy w' r) (hr : ∀ g, r = some g → w.heap.size + 3 ≤ g) (hm : IntsNew (w.heap.size + 3) w' .u32 Mx mx) (he : IntsNew (w.heap.size + 3) w' .u8 Et et) : QState w w' row Mx mx Et et :=
  have hne : ∀ g, g < w.heap.size + 3 → some g ≠ r := fun g hlt e => by have := hr g e.symm; omega
  ⟨h.hr.grown hg (hne _ (by omega)), h.hn.grown hg (hne _ (by omega)), h.hz.grown hg (hne _ (by omega)), Below.grown h.hu hg h.hu.size (fun g e => by have := hr g e; omega), Nat.le_trans h.hs hg.size, hm, he⟩
theorem QState.later (h : QState w wx row Mx mx Et et) (hb : Below wx.heap.size wx w') : QState w w' row Mx mx Et et := ⟨h.hr.later hb, h.hn.later hb, h.hz.later hb, h.hu.later hb, Nat.le_trans h.hs hb.size, h.hm.later hb, h.he.later hb⟩
theorem QState.push (h : QState w wx row Mx mx Et et) (o : Obj) : QState w (wx.alloc o) row Mx mx Et et := h.later ((Below.refl _ _).alloc (Nat.le_refl _) o)
theorem QState.drew (h : QState w wx row Mx mx Et et) : QState w wx.drew row Mx mx Et et := ⟨h.hr, h.hn, h.hz, Bel.drew h.hu, h.hs, h.hm, h.he⟩
theorem QState.set (h : QState w wx row Mx mx Et et) (i : Nat) (v : Value) : QState w (wx.setCell ⟨w.heap.size + 2, i, none⟩ v) (row.set i v) Mx mx Et et :=
  ⟨by have := h.hr.set_ i v; simpa using this, h.hn.far (by simp) v, h.hz.far (by simp) v, below_set_old h.hu (by simp) v, by have := h.hs; simpa [World.setCell] using this, h.hm.setCell (by simp) v, h.he.setCell (by simp) v⟩
theorem QState.setE (h : QState w wx row Mx mx Et et) {Et' : Option Addr} {et' : List Int} (he : IntsNew (w.heap.size + 3) wx .u8 Et' et') : QState w wx row Mx mx Et' et' := ⟨h.hr, h.hn, h.hz, h.hu, h.hs, h.hm, he⟩
theorem QState.setM (h : QState w wx row Mx mx Et et) {Mx' : Option Addr} {mx' : List Int} (hm : IntsNew (w.heap.size + 3) wx .u32 Mx' mx') : QState w wx row Mx' mx' Et et := ⟨h.hr, h.hn, h.hz, h.hu, h.hs, hm, h.he⟩
end
theorem QState.start {w W : World} (row : List Value) (hs : W.heap.size = w.heap.size + 2) (hz : Blk W w.heap.size 27 #[.bool false, .int .u8 0, .int .u16 0, .int .u32 0, .int .u32 0, .slice none 0 0, .bool false, .int .u16 0, .slice none 0 0, .slice none 0 0, .int .i64 0]) (hn : Blk W (w.heap.size + 1) 27 #[.bool false, .int .u8 0, .int .u16 0, .int .u32 0, .int .u32 0, .slice none 0 0, .bool false, .int .u16 0, .slice none 0 0, .slice none 0 0, .int .i64 0]) (hu : Bel w W) : QState w (W.alloc (.cells row.toArray 27)).drew row none [] none [] :=
  ⟨by have := Blk.new W 27 row.toArray; rw [hs] at this; exact this, hn.push _, hz.push _, (hu.push _).drew, by show w.heap.size + 3 ≤ (W.alloc _).heap.size; rw [size_alloc1, hs]; omega, IntsNew.nil, IntsNew.nil⟩
theorem ints_slice {W : World} {B b off c n m : Nat} {bs : List Int} (h : IntsAt W B .u8 (some ⟨b, off, none⟩) bs) (hc : bs.length ≤ c) (hl : n + m ≤ bs.length) : IntsAt W B .u8 (if c = n then some ⟨b, off, none⟩ else some ⟨b, off + n, none⟩) ((bs.drop n).take m) := by
  by_cases h0 : c = n
  · have : m = 0 := by omega
    subst this
    rw [List.take_zero]
    exact IntsAt.nil
  · rw [if_neg h0]
    exact h.sub n m hl
theorem IntsNew.drewG {n : Nat} {w w' : World} {k : IntKind} {A : Option Addr} {zs : List Int} (h : IntsNew n w k A zs) (hg : w.drew.grownBy w' none) : IntsNew n w' k A zs := by
  have hb : Below w.drew.heap.size w.drew w' := (Below.refl _ _).grown hg (Nat.le_refl _) (fun g e => by cases e)
  exact IntsNew.later (w := w.drew) ⟨h.1, h.2⟩ hb
theorem drop_last (bs : List Int) (Q L : Nat) (h : L + Q = bs.length) (hL : 0 < L) : (bs.drop Q).length = L ∧ (bs.drop Q).getD ((bs.drop Q).length - 1) 0 = bs.getD (bs.length - 1) 0 := by
  have h1 : (bs.drop Q).length = L := by simp; omega
  refine ⟨h1, ?_⟩
  rw [h1]
  simp only [List.getD_eq_getElem?_getD, List.getElem?_drop]
  rw [show Q + (L - 1) = bs.length - 1 by omega]
theorem bad_drop (bs : List Int) (Q : Nat) : ∀ (k i : Nat), Pk.bad (bs.drop Q) i k = (Pk.bad bs (Q + i) k).map (fun j => j - Q)
  | 0, i => rfl
  | k + 1, i => by
    have e : (bs.drop Q).getD i 0 = bs.getD (Q + i) 0 := by simp [List.getD_eq_getElem?_getD]
    unfold Pk.bad
    rw [e]
    by_cases h : bs.getD (Q + i) 0 = 0
    · rw [if_pos h, if_pos h, bad_drop bs Q k (i + 1), Nat.add_assoc]
    · rw [if_neg h, if_neg h]
      simp
theorem decP_a (bs : List Int) (Q : Nat) (hQ : Q = Pk.bodyAt bs) {L : Nat} (h : L + Q = bs.length) (hL : L = 0) : Pk.decP bs = (Pk.Pkt.zero, (bs.length : Int) - 1, 5) := by
  unfold Pk.decP Pk.padR
  rw [← hQ, if_pos (show (bs.drop Q).length = 0 by simp; omega)]
  have e : (Q : Int) + -1 = (bs.length : Int) - 1 := by omega
  simp [e]
theorem decP_b (bs : List Int) (Q : Nat) (hQ : Q = Pk.bodyAt bs) {L : Nat} (h : L + Q = bs.length) (hL : 0 < L) (x : Int) (hx : x = bs.getD (bs.length - 1) 0) (h2 : x = 0 ∨ (L : Int) < x) : Pk.decP bs = (Pk.Pkt.zero, (bs.length : Int) - 1, 5) := by
  obtain ⟨e1, e2⟩ := drop_last bs Q L h hL
  unfold Pk.decP Pk.padR
  rw [← hQ, e2, e1, ← hx, if_neg (show ¬L = 0 by omega), if_pos h2]
  have e : (Q : Int) + ((L : Int) - 1) = (bs.length : Int) - 1 := by omega
  simp [e]
theorem decP_c (bs : List Int) (Q : Nat) (hQ : Q = Pk.bodyAt bs) {L : Nat} (h : L + Q = bs.length) (hL : 0 < L) (N : Nat) (hx : (N : Int) = bs.getD (bs.length - 1) 0) (h1 : 1 ≤ N) (h2 : N ≤ L) :
    Pk.decP bs = (match Pk.bad bs (bs.length - N) (N - 1) with | none => Pk.fin bs N | some i => (Pk.Pkt.zero, (i : Int), 5)) := by
  obtain ⟨e1, e2⟩ := drop_last bs Q L h hL
  unfold Pk.decP Pk.padR
  rw [← hQ, e2, e1, ← hx, if_neg (show ¬L = 0 by omega), if_neg (show ¬((N : Int) = 0 ∨ (L : Int) < (N : Int)) by omega), bad_drop]
  have e3 : Q + (L - (N : Int).toNat) = bs.length - N := by omega
  have e4 : (N : Int).toNat - 1 = N - 1 := by omega
  rw [e3, e4]
  cases hb : Pk.bad bs (bs.length - N) (N - 1) with
  | none => simp [Pk.padOf]
  | some i =>
    have := Pk.bad_lt bs _ _ _ hb
    simp only [Pk.padOf, Option.map_some]
    have e : (Q : Int) + ((i - Q : Nat) : Int) = (i : Int) := by omega
    simp [e]
theorem chk_ver_ok (bs : List Int) (h : (Pk.chk bs).2 = 0) : bs.getD 0 0 / 64 = 2 := by
  unfold Pk.chk at h
  by_cases h1 : bs.length = 0
  · rw [if_pos h1] at h; cases h
  rw [if_neg h1] at h
  by_cases h2 : bs.getD 0 0 / 64 ≠ 2
  · rw [if_pos h2] at h; cases h
  omega
theorem bytes_at {w wx : World} {b off : Nat} {bs : List Int} (h : IntsAt w w.heap.size .u8 (some ⟨b, off, none⟩) bs) (hu : Bel w wx) (i : Nat) (hi : i < bs.length) : wx.cell? ⟨b, off + i, none⟩ = some (.int .u8 (bs.getD i 0)) := by
  obtain ⟨b', off', e, _, hc⟩ := (h.below hu) (by omega)
  cases e
  exact hc i hi
section
variable (A : Option Addr) (bs : List Int) (c : Nat) (w : World)
set_option maxRecDepth 100000 in
set_option maxHeartbeats 6400000 in
theorem rPDec_empty (hA : IntsAt w w.heap.size .u8 A bs) (hz : Within 0 255 bs) (hm : bs.length ≤ 100000) (hc : bs.length ≤ c) (h : bs.length = 0) : Calls Try.prog 16 #[.slice A bs.length c] w (PDecR (Pk.Pkt.zero, 0, 6) w) := by
  obtain rfl := List.eq_nil_of_length_eq_zero h
  clear hA hz h hm hc
  go_enter Try.func16, Try.ntmps16
  have U := Lib.hid (Bel.push (Bel.push (Bel.refl w) (.cells #[.bool false, .int .u8 0, .int .u16 0, .int .u32 0, .int .u32 0, .slice none 0 0, .bool false, .int .u16 0, .slice none 0 0, .slice none 0 0, .int .i64 0] 27)) (.cells #[.bool false, .int .u8 0, .int .u16 0, .int .u32 0, .int .u32 0, .slice none 0 0, .bool false, .int .u16 0, .slice none 0 0, .slice none 0 0, .int .i64 0] 27))
  have B := Lib.hid (Blk.push (Blk.new w 27 #[.bool false, .int .u8 0, .int .u16 0, .int .u32 0, .int .u32 0, .slice none 0 0, .bool false, .int .u16 0, .slice none 0 0, .slice none 0 0, .int .i64 0]) (.cells #[.bool false, .int .u8 0, .int .u16 0, .int .u32 0, .int .u32 0, .slice none 0 0, .bool false, .int .u16 0, .slice none 0 0, .slice none 0 0, .int .i64 0] 27))
  go_wp2_with fail
  exact bodyPost_ret (v := .tuple #[.agg #[.bool false, .int .u8 0, .int .u16 0, .int .u32 0, .int .u32 0, .slice none 0 0, .bool false, .int .u16 0, .slice none 0 0, .slice none 0 0, .int .i64 0], .int .i64 0, .int .u8 6]) (res_ctt Try.results16 rfl (run_loadVar_row (P := Try.prog) _ _ _ _ _ _ _ B.out Try.underlying27 rfl (by kernel_rfl)) rfl rfl) rfl ⟨none, 0, none, 0, none, 0, rfl, IntsNew.nil, IntsNew.nil, IntsNew.nil, U.out⟩
set_option maxRecDepth 100000 in
set_option maxHeartbeats 6400000 in
theorem rPDec_ver (hA : IntsAt w w.heap.size .u8 A bs) (hz : Within 0 255 bs) (hm : bs.length ≤ 100000) (hc : bs.length ≤ c) (h : 0 < bs.length) (h2 : bs.getD 0 0 / 64 ≠ 2) : Calls Try.prog 16 #[.slice A bs.length c] w (PDecR (Pk.Pkt.zero, 0, 15) w) := by
  obtain ⟨b, off, rfl, hbB, hcell⟩ := hA (by omega)
  have HA : Hid (IntsAt w w.heap.size .u8 (some ⟨b, off, none⟩) bs) := Lib.hid hA
  have q0 : w.cell? ⟨b, off, none⟩ = some (.int .u8 (bs.getD 0 0)) := hcell 0 (by omega)
  obtain ⟨m0, n0⟩ := hz.at (i := 0) (by omega)
  obtain ⟨x0, hx0⟩ : ∃ x, x = bs.getD 0 0 := ⟨_, rfl⟩
  rw [← hx0] at q0 m0 n0
  have HX0 := Lib.hid hx0
  have HZ := Lib.hid hz
  have hlen := Lib.hid hm
  have hcap := Lib.hid hc
  have hb1 : (bs.length : Int) ≤ 100000 := by omega
  have hl1 : ¬bs.length = 0 := by omega
  have hl2 : ¬bs = [] := by intro h5; rw [h5] at hl1; exact hl1 rfl
  have hl3 : (0 : Int) < (bs.length : Int) := by omega
  have hbb : b < w.heap.size + 1 := by omega
  have hbc : b < w.heap.size + 1 + 1 := by omega
  rw [← hx0] at h2
  have k1 : (x0 / 64 != 2) = true := bne_iff_ne.2 h2
  clear h2 hcell hA hz hx0 hm hc h
  go_enter Try.func16, Try.ntmps16
  have U := Lib.hid (Bel.push (Bel.push (Bel.refl w) (.cells #[.bool false, .int .u8 0, .int .u16 0, .int .u32 0, .int .u32 0, .slice none 0 0, .bool false, .int .u16 0, .slice none 0 0, .slice none 0 0, .int .i64 0] 27)) (.cells #[.bool false, .int .u8 0, .int .u16 0, .int .u32 0, .int .u32 0, .slice none 0 0, .bool false, .int .u16 0, .slice none 0 0, .slice none 0 0, .int .i64 0] 27))
  have B := Lib.hid (Blk.push (Blk.new w 27 #[.bool false, .int .u8 0, .int .u16 0, .int .u32 0, .int .u32 0, .slice none 0 0, .bool false, .int .u16 0, .slice none 0 0, .slice none 0 0, .int .i64 0]) (.cells #[.bool false, .int .u8 0, .int .u16 0, .int .u32 0, .int .u32 0, .slice none 0 0, .bool false, .int .u16 0, .slice none 0 0, .slice none 0 0, .int .i64 0] 27))
  go_wp2_with fail
  exact bodyPost_ret (v := .tuple #[.agg #[.bool false, .int .u8 0, .int .u16 0, .int .u32 0, .int .u32 0, .slice none 0 0, .bool false, .int .u16 0, .slice none 0 0, .slice none 0 0, .int .i64 0], .int .i64 0, .int .u8 15]) (res_ctt Try.results16 rfl (run_loadVar_row (P := Try.prog) _ _ _ _ _ _ _ B.out Try.underlying27 rfl (by kernel_rfl)) rfl rfl) rfl ⟨none, 0, none, 0, none, 0, rfl, IntsNew.nil, IntsNew.nil, IntsNew.nil, U.out⟩
set_option maxRecDepth 100000 in
set_option maxHeartbeats 6400000 in
theorem rPDec_short1 (hA : IntsAt w w.heap.size .u8 A bs) (hz : Within 0 255 bs) (hm : bs.length ≤ 100000) (hc : bs.length ≤ c) (mm : Nat) (h : 0 < bs.length) (h2 : bs.getD 0 0 / 64 = 2) (hmm : bs.getD 0 0 % 16 = (mm : Int)) (h3 : (bs.length : Int) < 12 + 4 * (mm : Int)) : Calls Try.prog 16 #[.slice A bs.length c] w (PDecR (Pk.Pkt.zero, (bs.length : Int), 6) w) := by
  obtain ⟨b, off, rfl, hbB, hcell⟩ := hA (by omega)
  have HA : Hid (IntsAt w w.heap.size .u8 (some ⟨b, off, none⟩) bs) := Lib.hid hA
  have q0 : w.cell? ⟨b, off, none⟩ = some (.int .u8 (bs.getD 0 0)) := hcell 0 (by omega)
  obtain ⟨m0, n0⟩ := hz.at (i := 0) (by omega)
  obtain ⟨x0, hx0⟩ : ∃ x, x = bs.getD 0 0 := ⟨_, rfl⟩
  rw [← hx0] at q0 m0 n0
  have HX0 := Lib.hid hx0
  have HZ := Lib.hid hz
  have hlen := Lib.hid hm
  have hcap := Lib.hid hc
  have hb1 : (bs.length : Int) ≤ 100000 := by omega
  have hl1 : ¬bs.length = 0 := by omega
  have hl2 : ¬bs = [] := by intro h5; rw [h5] at hl1; exact hl1 rfl
  have hl3 : (0 : Int) < (bs.length : Int) := by omega
  have hbb : b < w.heap.size + 1 := by omega
  have hbc : b < w.heap.size + 1 + 1 := by omega
  rw [← hx0] at h2 hmm
  obtain ⟨q, hq⟩ : ∃ q, q = 12 + 4 * mm := ⟨_, rfl⟩
  have kq : 12 + 4 * (mm : Int) = (q : Int) := by omega
  have k3 : x0 % 16 = (mm : Int) := hmm
  have k1 : (x0 / 64 != 2) = false := by simp [h2]
  have hmb : mm ≤ 15 := by omega
  have h4 : (bs.length : Int) < (q : Int) := by omega
  have h4' : bs.length < q := by omega
  clear h3
  have hke : ∃ e, e = x0 / 16 % 2 := ⟨_, rfl⟩
  clear h2 hcell hA hz hx0 hmm hm hc h hq
  go_enter Try.func16, Try.ntmps16
  have U := Lib.hid (Bel.push (Bel.push (Bel.refl w) (.cells #[.bool false, .int .u8 0, .int .u16 0, .int .u32 0, .int .u32 0, .slice none 0 0, .bool false, .int .u16 0, .slice none 0 0, .slice none 0 0, .int .i64 0] 27)) (.cells #[.bool false, .int .u8 0, .int .u16 0, .int .u32 0, .int .u32 0, .slice none 0 0, .bool false, .int .u16 0, .slice none 0 0, .slice none 0 0, .int .i64 0] 27))
  have B := Lib.hid (Blk.push (Blk.new w 27 #[.bool false, .int .u8 0, .int .u16 0, .int .u32 0, .int .u32 0, .slice none 0 0, .bool false, .int .u16 0, .slice none 0 0, .slice none 0 0, .int .i64 0]) (.cells #[.bool false, .int .u8 0, .int .u16 0, .int .u32 0, .int .u32 0, .slice none 0 0, .bool false, .int .u16 0, .slice none 0 0, .slice none 0 0, .int .i64 0] 27))
  go_wp2_with fail
  exact bodyPost_ret (v := .tuple #[.agg #[.bool false, .int .u8 0, .int .u16 0, .int .u32 0, .int .u32 0, .slice none 0 0, .bool false, .int .u16 0, .slice none 0 0, .slice none 0 0, .int .i64 0], .int .i64 bs.length, .int .u8 6]) (res_ctt Try.results16 rfl (run_loadVar_row (P := Try.prog) _ _ _ _ _ _ _ B.out Try.underlying27 rfl (by kernel_rfl)) rfl rfl) rfl ⟨none, 0, none, 0, none, 0, rfl, IntsNew.nil, IntsNew.nil, IntsNew.nil, U.out⟩
set_option maxRecDepth 100000 in
set_option maxHeartbeats 6400000 in
theorem rPDec_short2 (hA : IntsAt w w.heap.size .u8 A bs) (hz : Within 0 255 bs) (hm : bs.length ≤ 100000) (hc : bs.length ≤ c) (mm : Nat) (h : 0 < bs.length) (h2 : bs.getD 0 0 / 64 = 2) (hmm : bs.getD 0 0 % 16 = (mm : Int)) (h3 : 12 + 4 * (mm : Int) ≤ (bs.length : Int)) (he : bs.getD 0 0 / 16 % 2 = 1) (h5 : (bs.length : Int) < 12 + 4 * (mm : Int) + 4) : Calls Try.prog 16 #[.slice A bs.length c] w (PDecR (Pk.Pkt.zero, (bs.length : Int), 6) w) := by
  obtain ⟨b, off, rfl, hbB, hcell⟩ := hA (by omega)
  have HA : Hid (IntsAt w w.heap.size .u8 (some ⟨b, off, none⟩) bs) := Lib.hid hA
  have q0 : w.cell? ⟨b, off, none⟩ = some (.int .u8 (bs.getD 0 0)) := hcell 0 (by omega)
  obtain ⟨m0, n0⟩ := hz.at (i := 0) (by omega)
  obtain ⟨x0, hx0⟩ : ∃ x, x = bs.getD 0 0 := ⟨_, rfl⟩
  rw [← hx0] at q0 m0 n0
  have HX0 := Lib.hid hx0
  have HZ := Lib.hid hz
  have hlen := Lib.hid hm
  have hcap := Lib.hid hc
  have hb1 : (bs.length : Int) ≤ 100000 := by omega
  have hl1 : ¬bs.length = 0 := by omega
  have hl2 : ¬bs = [] := by intro h5; rw [h5] at hl1; exact hl1 rfl
  have hl3 : (0 : Int) < (bs.length : Int) := by omega
  have hbb : b < w.heap.size + 1 := by omega
  have hbc : b < w.heap.size + 1 + 1 := by omega
  rw [← hx0] at h2 hmm he
  obtain ⟨q, hq⟩ : ∃ q, q = 12 + 4 * mm := ⟨_, rfl⟩
  have kq : 12 + 4 * (mm : Int) = (q : Int) := by omega
  have k3 : x0 % 16 = (mm : Int) := hmm
  have k1 : (x0 / 64 != 2) = false := by simp [h2]
  have hmb : mm ≤ 15 := by omega
  have h4 : (q : Int) ≤ (bs.length : Int) := by omega
  have h4' : q ≤ bs.length := by omega
  have h6 : (bs.length : Int) < (q : Int) + 4 := by omega
  clear h3 h5
  clear h2 hcell hA hz hx0 hmm hm hc h hq
  go_enter Try.func16, Try.ntmps16
  have U := Lib.hid (Bel.push (Bel.push (Bel.refl w) (.cells #[.bool false, .int .u8 0, .int .u16 0, .int .u32 0, .int .u32 0, .slice none 0 0, .bool false, .int .u16 0, .slice none 0 0, .slice none 0 0, .int .i64 0] 27)) (.cells #[.bool false, .int .u8 0, .int .u16 0, .int .u32 0, .int .u32 0, .slice none 0 0, .bool false, .int .u16 0, .slice none 0 0, .slice none 0 0, .int .i64 0] 27))
  have B := Lib.hid (Blk.push (Blk.new w 27 #[.bool false, .int .u8 0, .int .u16 0, .int .u32 0, .int .u32 0, .slice none 0 0, .bool false, .int .u16 0, .slice none 0 0, .slice none 0 0, .int .i64 0]) (.cells #[.bool false, .int .u8 0, .int .u16 0, .int .u32 0, .int .u32 0, .slice none 0 0, .bool false, .int .u16 0, .slice none 0 0, .slice none 0 0, .int .i64 0] 27))
  go_wp2_with fail
  exact bodyPost_ret (v := .tuple #[.agg #[.bool false, .int .u8 0, .int .u16 0, .int .u32 0, .int .u32 0, .slice none 0 0, .bool false, .int .u16 0, .slice none 0 0, .slice none 0 0, .int .i64 0], .int .i64 bs.length, .int .u8 6]) (res_ctt Try.results16 rfl (run_loadVar_row (P := Try.prog) _ _ _ _ _ _ _ B.out Try.underlying27 rfl (by kernel_rfl)) rfl rfl) rfl ⟨none, 0, none, 0, none, 0, rfl, IntsNew.nil, IntsNew.nil, IntsNew.nil, U.out⟩
end
end Go.Proofs.Ytbpcpgmbfnmacaa
