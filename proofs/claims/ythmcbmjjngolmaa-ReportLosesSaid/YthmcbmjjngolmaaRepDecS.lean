/- Layer 26: Decode of the program: what stays of memory while it reads. -/
import Derived.Test.YthmcbmjjngolmaaRepDec1
import Derived.Deep.CutRange
import Derived.Deep.DeepCutAuto
import Derived.RegionCalls
import Derived.Deep.RegionWith
import Derived.Deep.RegionHeld3
namespace Go.Proofs.Ythmcbmjjngolmaa
open Go.RowKit
set_option linter.unusedVariables false
set_option linter.unusedSimpArgs false
attribute [local go_sem] setCell_drewN alloc_drewN
theorem Only.undrew {g : Nat} {W w' : World} (h : Only g W.drew w') : Only g W w' := ⟨⟨h.1.os, h.1.tape, h.1.output, h.1.size, h.1.block⟩, h.2⟩
theorem u32_wrap (n : Int) : IntKind.u32.wrap n = n % 4294967296 := by simp [IntKind.wrap, IntKind.bits, IntKind.signed]
theorem u8_wrap (n : Int) : IntKind.u8.wrap n = n % 256 := by simp [IntKind.wrap, IntKind.bits, IntKind.signed]
theorem cell_drew {W : World} {a : Addr} {v : Value} (h : W.cell? a = some v) : W.drew.cell? a = some v := h
theorem cell_set_far {W : World} {b o g i : Nat} {v : Value} (h : W.cell? ⟨b, o, none⟩ = some v) (hne : ¬b = g) (u : Value) : (W.setCell ⟨g, i, none⟩ u).cell? ⟨b, o, none⟩ = some v := cell_set_other h hne u
theorem only_cell {g b o : Nat} {W w' : World} {v : Value} (h : Only g W w') (hne : ¬b = g) (hc : W.cell? ⟨b, o, none⟩ = some v) : w'.cell? ⟨b, o, none⟩ = some v := h.cell hc hne
theorem ocell {g : Nat} {W w' : World} (h : Only g W w') : (∀ b o, ¬b = g → w'.cell? ⟨b, o, none⟩ = W.cell? ⟨b, o, none⟩) ∧ (∀ b o, ¬b = g → w'.frozen? ⟨b, o, none⟩ = W.frozen? ⟨b, o, none⟩) ∧ w'.heap.size = W.heap.size := by
  refine ⟨fun b o hne => ?_, fun b o hne => ?_, h.2⟩
  · have hb : w'.heap[b]? = W.heap[b]? := by
      by_cases hlt : b < W.heap.size
      · exact h.1.block b hlt (fun e => hne (by injection e))
      · rw [Array.getElem?_eq_none (show W.heap.size ≤ b by omega), Array.getElem?_eq_none (show w'.heap.size ≤ b by have := h.2; omega)]
    simp only [World.cell?, hb]
  · have hb : w'.heap[b]? = W.heap[b]? := by
      by_cases hlt : b < W.heap.size
      · exact h.1.block b hlt (fun e => hne (by injection e))
      · rw [Array.getElem?_eq_none (show W.heap.size ≤ b by omega), Array.getElem?_eq_none (show w'.heap.size ≤ b by have := h.2; omega)]
    simp only [World.frozen?, hb]
/-- while Decode reads: the bytes, the place, the report that is being filled -/
structure DState (w wx : World) (ga : Nat) (A : Option Addr) (c : Nat) (bs : List Int) (p : Nat) (row : List Value) : Prop where
  ints : IntsAt w w.heap.size .u8 A bs
  bytes : Within 0 255 bs
  len : bs.length ≤ maxLen
  hg : w.heap.size + 2 ≤ ga
  hr : Blk wx (ga + 1) 47 row.toArray
  hp : Blk wx ga 3 #[.int .i64 (p : Int)]
  hx : Blk wx w.heap.size 40 #[.slice A bs.length c]
  hz : Blk wx (w.heap.size + 1) 47 #[.bool false, .int .u32 0, .int .u64 0, .int .u32 0, .int .u32 0, .int .u32 0, .slice none 0 0]
  hu : Bel w wx
  hs : ga + 2 ≤ wx.heap.size
section
variable {w wx w' : World} {ga c p : Nat} {A : Option Addr} {bs : List Int} {row : List Value}
theorem DState.only (h : DState w wx ga A c bs p row) (ho : Only ga wx w') {q : Nat} (hp : Blk w' ga 3 #[.int .i64 (q : Int)]) : DState w w' ga A c bs q row :=
  ⟨h.ints, h.bytes, h.len, h.hg, ho.blk h.hr (by omega), hp, ho.blk h.hx (by have := h.hg; omega), ho.blk h.hz (by have := h.hg; omega), ho.below h.hu (by have := h.hg; omega), by rw [ho.2]; exact h.hs⟩
theorem DState.grown (h : DState w wx ga A c bs p row) {r : Option Nat} (hg : wx.grownBy w' r) (hr : ∀ g, r = some g → ga + 2 ≤ g) : DState w w' ga A c bs p row :=
  have hne : ∀ g, g < ga + 2 → some g ≠ r := fun g hlt e => by have := hr g e.symm; omega
  ⟨h.ints, h.bytes, h.len, h.hg, h.hr.grown hg (hne _ (by omega)), h.hp.grown hg (hne _ (by omega)), h.hx.grown hg (hne _ (by have := h.hg; omega)), h.hz.grown hg (hne _ (by have := h.hg; omega)), Below.grown h.hu hg h.hu.size (fun g e => by have := hr g e; have := h.hg; omega), Nat.le_trans h.hs hg.size⟩
theorem DState.push (h : DState w wx ga A c bs p row) (o : Obj) : DState w (wx.alloc o) ga A c bs p row := h.grown (r := none) (World.grownBy_alloc wx o _) (fun g e => by cases e)
theorem DState.drew (h : DState w wx ga A c bs p row) : DState w wx.drew ga A c bs p row := ⟨h.ints, h.bytes, h.len, h.hg, h.hr, h.hp, h.hx, h.hz, Bel.drew h.hu, h.hs⟩
theorem DState.undrew (h : DState w wx.drew ga A c bs p row) : DState w wx ga A c bs p row := ⟨h.ints, h.bytes, h.len, h.hg, h.hr, h.hp, h.hx, h.hz, ⟨h.hu.os, h.hu.tape, h.hu.output, h.hu.size, h.hu.block⟩, h.hs⟩
theorem DState.far (h : DState w wx ga A c bs p row) (g i : Nat) (hg : ga + 2 ≤ g) (v : Value) : DState w (wx.setCell ⟨g, i, none⟩ v) ga A c bs p row :=
  h.grown (r := some g) ⟨rfl, rfl, rfl, by simp [World.setCell], fun k hk hne => Below.heap_setCell wx _ v k (fun e => hne (by rw [e]))⟩ (fun _ e => by injection e with e; omega)
theorem DState.set (h : DState w wx ga A c bs p row) (i : Nat) (v : Value) : DState w (wx.setCell ⟨ga + 1, i, none⟩ v) ga A c bs p (row.set i v) :=
  ⟨h.ints, h.bytes, h.len, h.hg, by have := h.hr.set_ i v; simpa using this, h.hp.far (by simp) v, h.hx.far (by have := h.hg; simp; omega) v, h.hz.far (by have := h.hg; simp; omega) v, below_set_old h.hu (by have := h.hg; simp; omega) v, by have := h.hs; simpa [World.setCell] using this⟩
theorem DState.call (h : DState w wx ga A c bs p row) (n q : Nat) (hn : n ≤ 8) (hl : p + n ≤ bs.length) (hq : p + n = q) : Calls Try.prog 33 #[.int .i64 n, .pointer (some ⟨w.heap.size, 0, none⟩), .pointer (some ⟨ga, 0, none⟩)] wx fun e w' => e = .returned (.int .u64 (fld bs p n)) ∧ Only ga wx w' ∧ Hid (DState w w' ga A c bs q row) := by
  subst hq
  refine (next_any A c bs w.heap.size ga p n wx w.heap.size bs.length (h.ints.below h.hu) h.bytes (by have := h.hg; omega) h.hx h.hp (by have := h.hg; omega) hn hl rfl h.len).mono ?_
  rintro e w1 ⟨rfl, ho, hp⟩
  exact ⟨rfl, ho, Lib.hid (h.only ho hp)⟩
end
theorem dec15a {w W1 w' : World} {ga c p q : Nat} {A : Option Addr} {bs : List Int} {zs row : List Value} (D : DState w (W1.alloc (.cells zs.toArray 47)) ga A c bs p zs) (hs : W1.heap.size = ga + 1) (ho : Only ga W1 w') (hp : Blk w' ga 3 #[.int .i64 (q : Int)]) :
    Hid (DState w (w'.alloc (.cells row.toArray 47)) ga A c bs q row) := by
  have hs' : w'.heap.size = ga + 1 := ho.2.trans hs
  have hg := D.hg
  have old : ∀ {g : Nat} {t : TypeId} {cs : Array Value}, g < ga + 1 → Blk (W1.alloc (.cells zs.toArray 47)) g t cs → Blk W1 g t cs := fun hlt h => by
    unfold Blk at h ⊢
    rwa [Below.heap_alloc W1 _ _ (by omega)] at h
  refine Lib.hid ⟨D.ints, D.bytes, D.len, D.hg, ?_, hp.push _, (ho.blk (old (by omega) D.hx) (by omega)).push _, (ho.blk (old (by omega) D.hz) (by omega)).push _, ?_, ?_⟩
  · have := Blk.new w' 47 row.toArray
    rwa [hs'] at this
  · refine Bel.push (ho.below (W := w) (w := W1) ?_ (by omega)) _
    have hu := D.hu
    exact ⟨hu.os, hu.tape, hu.output, by omega, fun k hk => by rw [← hu.block k hk, Below.heap_alloc W1 _ _ (by omega)]⟩
  · rw [size_alloc1, hs']; exact Nat.le_refl _
theorem dec15b {w W1 w' : World} {ga c p q : Nat} {A : Option Addr} {bs : List Int} {zs : List Value} (D : DState w (W1.alloc (.cells zs.toArray 47)) ga A c bs p zs) (ho : Only ga (W1.alloc (.cells zs.toArray 47)) w') (hp : Blk w' ga 3 #[.int .i64 (q : Int)]) (row : List Value) (hl : zs.length = row.length) :
    Hid (DState w (setRow (ga + 1) w' 0 row) ga A c bs q row) := by
  have D' := D.only ho hp
  have hg := D.hg
  exact Lib.hid ⟨D.ints, D.bytes, D.len, D.hg, Blk.setRow D'.hr row (by simpa using hl), Blk.farRow (by omega) _ _ _ D'.hp, Blk.farRow (by omega) _ _ _ D'.hx, Blk.farRow (by omega) _ _ _ D'.hz, below_setRow (by omega) _ _ _ D'.hu, by rw [setRow_size]; exact D'.hs⟩
end Go.Proofs.Ythmcbmjjngolmaa
