/- Layer 25: packets and their bytes, in plain words; what stays of memory while bytes are appended. -/
import Derived.Test.YtbpcpgmbfnmacaaPkPut
import Derived.Test.YtbpcpgmbfnmacaaAppZ
namespace Go.Proofs.Ytbpcpgmbfnmacaa
open Go.RowKit
set_option linter.unusedVariables false
set_option linter.unusedSimpArgs false
attribute [local go_sem ↓] run_min_plain run_max_plain
attribute [local go_sem] setCell_drewN alloc_drewN
namespace Pk
/-- a packet -/
structure Pkt where
  mark : Bool
  ty : Int
  sq : Int
  ti : Int
  so : Int
  mx : List Int
  ex : Bool
  ek : Int
  et : List Int
  pl : List Int
  pad : Int
def err (p : Pkt) : Int :=
  if 127 < p.ty ∨ p.pad < 0 ∨ 255 < p.pad then 3 else
  if p.ex = false ∧ (p.ek ≠ 0 ∨ 0 < p.et.length) ∨ p.et.length % 4 ≠ 0 then 2 else
  if 15 < p.mx.length ∨ 1020 < p.et.length ∨ 1500 < p.pl.length then 4 else 0
def lead (p : Pkt) : List Int := [128 + (p.mx.length : Int) + (if p.pad = 0 then 0 else 32) + (if p.ex then 16 else 0), p.ty + if p.mark then 128 else 0]
def tail (p : Pkt) : List Int := (if p.ex then be 2 p.ek ++ be 2 ((p.et.length : Int) / 4) ++ p.et else []) ++ p.pl ++ (if p.pad = 0 then [] else List.replicate (p.pad - 1).toNat 0 ++ [p.pad])
def bytes (p : Pkt) : List Int := lead p ++ be 2 p.sq ++ be 4 p.ti ++ be 4 p.so ++ p.mx.flatMap (be 4) ++ tail p
def enc (p : Pkt) : List Int × Int := if err p = 0 then (bytes p, 0) else ([], err p)
theorem or_a : ∀ m : Fin 16, bits BinOp.or IntKind.i64 128 (m.val : Int) = 128 + (m.val : Int) := by decide +kernel
theorem or_b : ∀ m : Fin 16, bits BinOp.or IntKind.u8 (128 + (m.val : Int)) 32 = 160 + (m.val : Int) := by decide +kernel
theorem or_c : ∀ m : Fin 16, bits BinOp.or IntKind.u8 (128 + (m.val : Int)) 16 = 144 + (m.val : Int) := by decide +kernel
theorem or_d : ∀ m : Fin 16, bits BinOp.or IntKind.u8 (160 + (m.val : Int)) 16 = 176 + (m.val : Int) := by decide +kernel
theorem or_t : ∀ t : Fin 128, bits BinOp.or IntKind.u8 (t.val : Int) 128 = (t.val : Int) + 128 := by decide +kernel
end Pk
theorem u8_wrap (n : Int) : IntKind.u8.wrap n = n % 256 := by simp [IntKind.wrap, IntKind.bits, IntKind.signed]
theorem u32_wrap (n : Int) : IntKind.u32.wrap n = n % 4294967296 := by simp [IntKind.wrap, IntKind.bits, IntKind.signed]
/-- while Encode writes: the packet's box, the bytes so far -/
structure EState (w wx : World) (row : List Value) (A : Option Addr) (c : Nat) (out : List Int) : Prop where
  hb : Blk wx w.heap.size 27 row.toArray
  hu : Bel w wx
  ho : Owns wx w.heap.size 5 1 A out.length c (u8s out)
section
variable {w wx w' : World} {row : List Value} {A A' : Option Addr} {c c' : Nat} {out l : List Int}
theorem EState.grown (h : EState w wx row A c out) {N : Nat} {news : List Value} (hN : N = (out ++ l).length) (hn : news = u8s l) (hown : Owns w' w.heap.size 5 1 A' N c' (u8s out ++ news)) (hg : wx.grownBy w' (ownB A)) : EState w w' row A' c' (out ++ l) := by
  subst hN hn
  exact ⟨h.hb.grown hg (own_type h.ho h.hb (by decide)), Below.grown h.hu hg h.hu.size (fun g e => (h.ho.block g e).1), by rw [u8s_app]; exact hown⟩
theorem EState.push (h : EState w wx row A c out) (o : Obj) : EState w (wx.alloc o) row A c out := ⟨h.hb.push o, Bel.push h.hu o, h.ho.alloc o⟩
/-- what put leaves -/
def EPut (w : World) (row : List Value) (out : List Int) (e : Ending) (w' : World) : Prop := ∃ (A' : Option Addr) (c' : Nat), e = .returned (.slice A' out.length c') ∧ Hid (EState w w' row A' c' out)
theorem EState.put (h : EState w wx row A c out) (x : Int) (n : Nat) (hn : n ≤ 4) (x0 : 0 ≤ x) (x1 : x ≤ 4294967295) (hl : out.length ≤ 100000) : Calls Try.prog 28 #[.slice A out.length c, .int .u32 x, .int .i64 n] wx (EPut w row (out ++ be n x)) := by
  refine (put_any wx w.heap.size A c out x n h.ho h.hu.size hn x0 x1 hl).mono ?_
  rintro e w1 ⟨A', c', rfl, ho, hG⟩
  exact ⟨A', c', rfl, Lib.hid ⟨hG.blk h.hb (own_type h.ho h.hb (by decide)), hG.bel h.ho h.hu (Nat.le_refl _), ho⟩⟩
end
theorem flat4_take (l : List Int) (k : Nat) (h : k < l.length) : (l.take (k + 1)).flatMap (be 4) = (l.take k).flatMap (be 4) ++ be 4 (l.getD k 0) := by
  rw [List.take_succ_eq_append_getElem h, List.flatMap_append, List.getD_eq_getElem?_getD, List.getElem?_eq_getElem h]
  simp
end Go.Proofs.Ytbpcpgmbfnmacaa
