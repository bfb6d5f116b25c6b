/- Layer 26: the closure of Decode that reads the next number. -/
import Derived.Test.YthmcbmjjngolmaaRepVal
import Derived.Test.YthmcbmjjngolmaaGrow
import Derived.Test.YthmcbmjjngolmaaRes
import Derived.Deep.LoopGhost
import Derived.Laws.Bits64b
namespace Go.Proofs.Ythmcbmjjngolmaa
open Go.RowKit
set_option linter.unusedVariables false
set_option linter.unusedSimpArgs false
attribute [local go_sem] setCell_drewN alloc_drewN
/-- only block g has been written since w -/
def Only (g : Nat) (w w' : World) : Prop := w.grownBy w' (some g) ∧ w'.heap.size = w.heap.size
section
variable {g : Nat} {w w1 w2 : World}
theorem Only.refl (g : Nat) (w : World) : Only g w w := ⟨World.grownBy.refl w _, rfl⟩
theorem Only.trans (h : Only g w w1) (h2 : Only g w1 w2) : Only g w w2 :=
  ⟨⟨h2.1.os.trans h.1.os, h2.1.tape.trans h.1.tape, h2.1.output.trans h.1.output, Nat.le_trans h.1.size h2.1.size, fun k hk hne => (h2.1.block k (Nat.lt_of_lt_of_le hk h.1.size) hne).trans (h.1.block k hk hne)⟩, h2.2.trans h.2⟩
theorem Only.set (h : Only g w w1) (i : Nat) (v : Value) : Only g w (w1.setCell ⟨g, i, none⟩ v) :=
  h.trans ⟨⟨rfl, rfl, rfl, by simp [World.setCell], fun k hk hne => Below.heap_setCell w1 _ v k (fun e => hne (by rw [e]))⟩, by simp [World.setCell]⟩
theorem Only.drew (h : Only g w w1) : Only g w w1.drew := ⟨⟨h.1.os, h.1.tape, h.1.output, h.1.size, h.1.block⟩, h.2⟩
theorem Only.blk {g' : Nat} {t : TypeId} {cs : Array Value} (h : Only g w w1) (hb : Blk w g' t cs) (hne : g' ≠ g) : Blk w1 g' t cs := hb.grown h.1 (fun e => hne (by injection e))
theorem Only.cell {a : Addr} {v : Value} (h : Only g w w1) (hc : w.cell? a = some v) (hne : a.block ≠ g) : w1.cell? a = some v := h.1.cell hc (fun e => hne (by injection e))
theorem Only.below {W : World} (h : Only g w w1) (hb : Below W.heap.size W w) (hg : W.heap.size ≤ g) : Below W.heap.size W w1 :=
  hb.grown h.1 (Nat.le_trans (Nat.le_refl _) hb.size) (fun k e => by injection e with e; omega)
end
/-- what the closure leaves: the number of n bytes from p on; the place has moved on -/
def NextR (ga : Nat) (t : TypeId) (p n : Nat) (bs : List Int) (w : World) (e : Ending) (w' : World) : Prop :=
  e = .returned (.int .u64 (fld bs p n)) ∧ Only ga w w' ∧ Blk w' ga t #[.int .i64 ((p + n : Nat) : Int)]
theorem fld_take (bs : List Int) (p k : Nat) (h : p + k < bs.length) : fld bs p (k + 1) = 256 * fld bs p k + bs.getD (p + k) 0 := by
  unfold fld
  have hk : k < (bs.drop p).length := by simp; omega
  rw [val_take _ _ hk]
  congr 1
  simp [List.getD_eq_getElem?_getD]
theorem fld_bd (bs : List Int) (p k : Nat) (hb : Within 0 255 bs) (h : p + k ≤ bs.length) : 0 ≤ fld bs p k ∧ fld bs p k < 256 ^ k := by
  unfold fld
  exact val_bd k _ (by simp; omega) ((hb.drop p).take k)
theorem fld_small (bs : List Int) (p k : Nat) (hb : Within 0 255 bs) (h : p + k ≤ bs.length) (hk : k < 8) : 0 ≤ fld bs p k ∧ fld bs p k ≤ 72057594037927935 := by
  obtain ⟨h1, h2⟩ := fld_bd bs p k hb h
  have h3 : (256 : Int) ^ k ≤ 72057594037927936 := by
    have : ∀ i : Fin 8, (256 : Int) ^ i.val ≤ 72057594037927936 := by decide
    exact this ⟨k, hk⟩
  omega
theorem or_byte64 (x z : Int) (x0 : 0 ≤ x) (x1 : x ≤ 72057594037927935) (z0 : 0 ≤ z) (z1 : z ≤ 255) : bits BinOp.or IntKind.u64 (x * 256) z = 256 * x + z := by
  obtain ⟨n0, rfl⟩ := Int.eq_ofNat_of_zero_le x0
  obtain ⟨n1, rfl⟩ := Int.eq_ofNat_of_zero_le z0
  have e : ((n0 : Int) * 256) = ((n0 * 256 : Nat) : Int) := by omega
  have h : n0 * 256 ||| n1 = n0 * 256 + n1 := by
    rw [show (256 : Nat) = 2 ^ 8 from rfl, ← Nat.shiftLeft_eq, Nat.shiftLeft_add_eq_or_of_lt (by omega)]
  rw [e, bits_or_u64_nat (n0 * 256) n1 (by omega) (by omega), h]
  omega
section
variable (A : Option Addr) (c : Nat) (bs : List Int) (gb ga : Nat) (p n : Nat) (w : World) (B N : Nat)
set_option maxRecDepth 100000 in
set_option maxHeartbeats 1600000 in
theorem next_any (hA : IntsAt w B .u8 A bs) (hb : Within 0 255 bs) (hB : B ≤ ga) (hg : Blk w gb 40 #[.slice A N c]) (hp : Blk w ga 3 #[.int .i64 p]) (hne : gb ≠ ga) (hn : n ≤ 8) (hl : p + n ≤ bs.length) (hN : bs.length = N) (hm : bs.length ≤ maxLen) :
    Calls Try.prog 33 #[.int .i64 n, .pointer (some ⟨gb, 0, none⟩), .pointer (some ⟨ga, 0, none⟩)] w (NextR ga 3 p n bs w) := by
  subst hN
  have HA := Lib.hid hA
  have HB := Lib.hid hb
  have HP := Lib.hid hp
  have HG := Lib.hid hg
  unfold maxLen at hm
  clear hA hb hp hg
  go_enter Try.func33, Try.ntmps33
  go_wp2
  go_loopg [5, 7] n (fun gk s5 s7 wr => ∃ k : Nat, gk + k = n ∧ s7 = .int .i64 k ∧ s5 = .int .u64 (fld bs p k) ∧ Hid (Blk wr ga 3 #[.int .i64 ((p + k : Nat) : Int)]) ∧ Hid (Only ga w wr))
  case atStart => exact ⟨0, rfl, rfl, rfl, HP, Lib.hid (Only.refl _ _)⟩
  case round =>
    clear HP
    obtain ⟨k, hgk, rfl, rfl, HP, HO⟩ := hrel
    by_cases hlt : k < n
    · obtain ⟨b, off, rfl, hbB, hcell⟩ := HA.out (by omega)
      have hc := HO.out.cell (hcell (p + k) (by omega)) (by simp only; omega)
      have hc1 := (HO.out.blk HG.out hne).at 0 _ rfl
      have hc2 := HP.out.at 0 _ rfl
      have hz := HP.out.frozen
      obtain ⟨z0, z1⟩ := HB.out.at (i := p + k) (by omega)
      obtain ⟨v0, v1⟩ := fld_small bs p k HB.out (by omega) (by omega)
      have hst := fld_take bs p k (by omega)
      have HS := Lib.hid hst
      clear hcell hst
      have hpk : ((p + k : Nat) : Int) < (bs.length : Int) := by omega
      have hpk0 : (0 : Int) ≤ ((p + k : Nat) : Int) := by omega
      generalize bs.getD (p + k) 0 = z at *
      generalize fld bs p k = v at *
      generalize hq : p + k = q at *
      have hor := or_byte64 v z v0 v1 z0 z1
      have hk0 : (0 : Int) ≤ (k : Int) := by omega
      have hk1 : (k : Int) < (n : Int) := by omega
      have hk2 : (n : Int) ≤ 8 := by omega
      go_wp2_with fail
      go_roundg (gk - 1)
      case measure => omega
      case rel =>
        refine ⟨k + 1, by omega, by go_num, by rw [HS.out], ?_, Lib.hid (HO.out.set 0 _)⟩
        have := HP.out.set_ 0 (.int .i64 ((p + (k + 1) : Nat) : Int))
        have e : ((p + (k + 1) : Nat) : Int) = (q : Int) + 1 := by omega
        rw [e] at this ⊢
        exact Lib.hid this
    · obtain rfl : k = n := by omega
      have hk1 : (k : Int) ≤ (k : Int) := Int.le_refl _
      go_wp2_with fail
      go_ret
      exact ⟨rfl, HO.out, HP.out⟩
end
end Go.Proofs.Ythmcbmjjngolmaa
