/- Layer 27: the reference's Same, Exponent and size, MuToA and AToMu, and the examples (lives). -/
import Derived.Test.YtahbecinkciahaaGreatJtPlainQ
import Derived.Test.YtahbecinkciahaaGreatRows
import Derived.WalkKit
import Derived.ProofKit
import Derived.OpenShut
import Derived.ShutString
import Derived.ChangeOld
import Derived.SizedLaws
import Derived.Deep.RegionHeld3
import Derived.Deep.DrawnRows
import Derived.Deep.DeepCutAuto
import Derived.Deep.Slices
import Derived.Deep.Strs
import Derived.Lib.SmallJoins
import Derived.Laws.Rows
import Derived.Deep.RegionHeldLaw
import Derived.Laws.Bits64b
import Derived.BigQuiet
import Derived.Deep.QuietTactic
import Derived.Maps.AppendAt
import Derived.Deep.AppendLies
import Derived.OwnWalk
import Derived.Laws.CopyOwn
import Derived.Deep.LoopGhost
import Derived.Deep.CutRange
import Derived.RegionCalls
import Derived.Deep.RegionWith
namespace Go.Proofs.YtahbecinkciahaaGreat
open Go.RowKit
set_option linter.unusedVariables false
/-- the e of a sample's code -/
def expMu (x : Int) : Int := ((Cmp.expo (Cmp.magMu x) : Nat) : Int)
def expA (x : Int) : Int := ((Cmp.expo (Cmp.magA x) : Nat) : Int)
/-- what Pack and Unpack return, whatever the law and the slice -/
def packOut (n : Int) (zs : List Int) : List Int := if n = 1 ∧ zs.length ≤ 8000 then zs.map Cmp.muZ else if n = 2 ∧ zs.length ≤ 8000 then zs.map Cmp.aZ else []
def unpackOut (n : Int) (zs : List Int) : List Int := if n = 1 ∧ zs.length ≤ 8000 then zs.map Cmp.fromMuZ else if n = 2 ∧ zs.length ≤ 8000 then zs.map Cmp.fromAZ else []
def packErr (n : Int) (len : Nat) : Int := if n ≠ 1 ∧ n ≠ 2 then 2 else if 8000 < len then 4 else 0
theorem fromMuZ_bd (x : Int) (h0 : 0 ≤ x) (h1 : x ≤ 255) : -32768 ≤ Cmp.fromMuZ x ∧ Cmp.fromMuZ x ≤ 32767 := by have := Cmp.fromMu_bd x.toNat (by omega); unfold Cmp.fromMuZ; omega
theorem fromAZ_bd (x : Int) (h0 : 0 ≤ x) (h1 : x ≤ 255) : -32768 ≤ Cmp.fromAZ x ∧ Cmp.fromAZ x ≤ 32767 := by have := Cmp.fromA_bd x.toNat (by omega); unfold Cmp.fromAZ; omega
theorem within_map {lo hi lo' hi' : Int} {f : Int → Int} {zs : List Int} (h : Within lo hi zs) (hf : ∀ x, lo ≤ x → x ≤ hi → lo' ≤ f x ∧ f x ≤ hi') : Within lo' hi' (zs.map f) := fun z hz => by
  obtain ⟨x, hx, rfl⟩ := List.mem_map.1 hz
  exact hf x (h x hx).1 (h x hx).2
theorem neq_bools (n : Int) (h1 : n ≠ 1) (h2 : n ≠ 2) : (n == 1) = false ∧ (n == 2) = false ∧ (n != 1) = true ∧ (n != 2) = true := by simp [h1, h2]

theorem rPack_all (n : Int) (A : Option Addr) (zs : List Int) (cap : Nat) (w : World) (hA : IntsAt w w.heap.size .i16 A zs) (hz : Within (-32768) 32767 zs) :
    Calls Tryz.prog 87 #[.int .u8 n, .slice A zs.length cap] w fun e w' => ∃ (A' : Option Addr) (c' : Nat), e = .returned (.tuple #[.slice A' (packOut n zs).length c', .int .u8 (packErr n zs.length)]) ∧
      IntsAt w' w'.heap.size .u8 A' (packOut n zs) ∧ Below w.heap.size w w' := by
  by_cases h1 : n = 1
  · subst h1
    by_cases h8 : zs.length ≤ 8000
    · refine (rPack_mu A zs cap w hA hz h8).mono ?_
      rintro e w' ⟨A', c', rfl, h, hb⟩
      have e1 : packOut 1 zs = zs.map Cmp.muZ := by unfold packOut; rw [if_pos ⟨rfl, h8⟩]
      have e2 : packErr 1 zs.length = 0 := by unfold packErr; rw [if_neg (by simp), if_neg (by omega)]
      rw [e1, e2, List.length_map]
      exact ⟨A', c', rfl, h, hb⟩
    · refine (rcPack_long 1 A zs.length cap w (.inl rfl) (by omega)).mono ?_
      rintro e w' ⟨rfl, rfl⟩
      have e1 : packOut 1 zs = [] := by unfold packOut; rw [if_neg (by omega), if_neg (by omega)]
      have e2 : packErr 1 zs.length = 4 := by unfold packErr; rw [if_neg (by simp), if_pos (by omega)]
      rw [e1, e2]
      exact ⟨none, 0, rfl, IntsAt.nil, Below.refl _ _⟩
  · by_cases h2 : n = 2
    · subst h2
      by_cases h8 : zs.length ≤ 8000
      · refine (rPack_a A zs cap w hA hz h8).mono ?_
        rintro e w' ⟨A', c', rfl, h, hb⟩
        have e1 : packOut 2 zs = zs.map Cmp.aZ := by unfold packOut; rw [if_neg (by omega), if_pos ⟨rfl, h8⟩]
        have e2 : packErr 2 zs.length = 0 := by unfold packErr; rw [if_neg (by simp), if_neg (by omega)]
        rw [e1, e2, List.length_map]
        exact ⟨A', c', rfl, h, hb⟩
      · refine (rcPack_long 2 A zs.length cap w (.inr rfl) (by omega)).mono ?_
        rintro e w' ⟨rfl, rfl⟩
        have e1 : packOut 2 zs = [] := by unfold packOut; rw [if_neg (by omega), if_neg (by omega)]
        have e2 : packErr 2 zs.length = 4 := by unfold packErr; rw [if_neg (by simp), if_pos (by omega)]
        rw [e1, e2]
        exact ⟨none, 0, rfl, IntsAt.nil, Below.refl _ _⟩
    · obtain ⟨hn1, hn2, hn3, hn4⟩ := neq_bools n h1 h2
      refine (rPack_no n A zs.length cap w hn3 hn4).mono ?_
      rintro e w' ⟨rfl, rfl⟩
      have e1 : packOut n zs = [] := by unfold packOut; rw [if_neg (by omega), if_neg (by omega)]
      have e2 : packErr n zs.length = 2 := by unfold packErr; rw [if_pos ⟨h1, h2⟩]
      rw [e1, e2]
      exact ⟨none, 0, rfl, IntsAt.nil, Below.refl _ _⟩

theorem rUnpack_all (n : Int) (A : Option Addr) (zs : List Int) (cap : Nat) (w : World) (hA : IntsAt w w.heap.size .u8 A zs) (hz : Within (0) 255 zs) :
    Calls Tryz.prog 90 #[.int .u8 n, .slice A zs.length cap] w fun e w' => ∃ (A' : Option Addr) (c' : Nat), e = .returned (.tuple #[.slice A' (unpackOut n zs).length c', .int .u8 (packErr n zs.length)]) ∧
      IntsAt w' w'.heap.size .i16 A' (unpackOut n zs) ∧ Below w.heap.size w w' := by
  by_cases h1 : n = 1
  · subst h1
    by_cases h8 : zs.length ≤ 8000
    · refine (rUnpack_mu A zs cap w hA hz h8).mono ?_
      rintro e w' ⟨A', c', rfl, h, hb⟩
      have e1 : unpackOut 1 zs = zs.map Cmp.fromMuZ := by unfold unpackOut; rw [if_pos ⟨rfl, h8⟩]
      have e2 : packErr 1 zs.length = 0 := by unfold packErr; rw [if_neg (by simp), if_neg (by omega)]
      rw [e1, e2, List.length_map]
      exact ⟨A', c', rfl, h, hb⟩
    · refine (rUnpack_long 1 A zs.length cap w (.inl rfl) (by omega)).mono ?_
      rintro e w' ⟨rfl, rfl⟩
      have e1 : unpackOut 1 zs = [] := by unfold unpackOut; rw [if_neg (by omega), if_neg (by omega)]
      have e2 : packErr 1 zs.length = 4 := by unfold packErr; rw [if_neg (by simp), if_pos (by omega)]
      rw [e1, e2]
      exact ⟨none, 0, rfl, IntsAt.nil, Below.refl _ _⟩
  · by_cases h2 : n = 2
    · subst h2
      by_cases h8 : zs.length ≤ 8000
      · refine (rUnpack_a A zs cap w hA hz h8).mono ?_
        rintro e w' ⟨A', c', rfl, h, hb⟩
        have e1 : unpackOut 2 zs = zs.map Cmp.fromAZ := by unfold unpackOut; rw [if_neg (by omega), if_pos ⟨rfl, h8⟩]
        have e2 : packErr 2 zs.length = 0 := by unfold packErr; rw [if_neg (by simp), if_neg (by omega)]
        rw [e1, e2, List.length_map]
        exact ⟨A', c', rfl, h, hb⟩
      · refine (rUnpack_long 2 A zs.length cap w (.inr rfl) (by omega)).mono ?_
        rintro e w' ⟨rfl, rfl⟩
        have e1 : unpackOut 2 zs = [] := by unfold unpackOut; rw [if_neg (by omega), if_neg (by omega)]
        have e2 : packErr 2 zs.length = 4 := by unfold packErr; rw [if_neg (by simp), if_pos (by omega)]
        rw [e1, e2]
        exact ⟨none, 0, rfl, IntsAt.nil, Below.refl _ _⟩
    · obtain ⟨hn1, hn2, hn3, hn4⟩ := neq_bools n h1 h2
      refine (rUnpack_no n A zs.length cap w hn3 hn4).mono ?_
      rintro e w' ⟨rfl, rfl⟩
      have e1 : unpackOut n zs = [] := by unfold unpackOut; rw [if_neg (by omega), if_neg (by omega)]
      have e2 : packErr n zs.length = 2 := by unfold packErr; rw [if_pos ⟨h1, h2⟩]
      rw [e1, e2]
      exact ⟨none, 0, rfl, IntsAt.nil, Below.refl _ _⟩
end Go.Proofs.YtahbecinkciahaaGreat
/- Layer 32, Transcode in plain words; no program in sight. -/
namespace Go.Proofs.YtahbecinkciahaaGreat.Sb
open Go.RowKit
set_option linter.unusedVariables false
/-- the samples of a payload, and the error -/
def decE (c : Int) (bs : List Int) (n : Int) : List Int × Int :=
  if c = 0 then (bs.map Cmp.fromMuZ, 0) else if c = 8 then (bs.map Cmp.fromAZ, 0) else ((Dlt.unpR bs n).1, (Dlt.unpR bs n).2.2.2)
/-- the bytes of samples, the coder behind them, and the error -/
def encE (c v i : Int) (zs : List Int) : List Int × (Int × Int) × Int :=
  if c = 0 then (zs.map Cmp.muZ, (v, i), 0) else if c = 8 then (zs.map Cmp.aZ, (v, i), 0) else ((Dlt.packR v i zs).1, ((Dlt.packR v i zs).2.1, (Dlt.packR v i zs).2.2.1), (Dlt.packR v i zs).2.2.2)
def tran (a b : Int) (bs : List Int) (v i : Int) : List Int × (Int × Int) × Int :=
  if speechB a = false ∨ speechB b = false then ([], (0, 0), 15) else if a = 96 ∧ bs.length < 4 then ([], (0, 0), 6) else
    if (decE a bs (2 * ((bs.length : Int) - 4))).2 ≠ 0 then ([], (0, 0), (decE a bs (2 * ((bs.length : Int) - 4))).2) else
      if (encE b v i (decE a bs (2 * ((bs.length : Int) - 4))).1).2.2 ≠ 0 then ([], (0, 0), (encE b v i (decE a bs (2 * ((bs.length : Int) - 4))).1).2.2) else encE b v i (decE a bs (2 * ((bs.length : Int) - 4))).1
theorem tran_a (bs : List Int) (v i : Int) (hz : Within 0 255 bs) : tran 8 8 bs v i = (bs, (v, i), 0) := by
  have e : (bs.map Cmp.fromAZ).map Cmp.aZ = bs := by
    rw [List.map_map]
    have h : ∀ z ∈ bs, (Cmp.aZ ∘ Cmp.fromAZ) z = z := fun z hz' => by
      obtain ⟨h0, h1⟩ := hz z hz'
      obtain ⟨k, rfl⟩ := Int.eq_ofNat_of_zero_le h0
      exact (Cmp.byte_all (p := fun k => Cmp.aZ (Cmp.fromAZ (k : Int)) = (k : Int)) (by decide +kernel)) k (by omega)
    rw [List.map_congr_left h, List.map_id']
  have h1 : decE 8 bs (2 * ((bs.length : Int) - 4)) = (bs.map Cmp.fromAZ, 0) := by unfold decE; rw [if_neg (by decide), if_pos rfl]
  have h2 : encE 8 v i (bs.map Cmp.fromAZ) = ((bs.map Cmp.fromAZ).map Cmp.aZ, (v, i), 0) := by unfold encE; rw [if_neg (by decide), if_pos rfl]
  unfold tran
  rw [if_neg (by decide), if_neg (fun h => absurd h.1 (by decide)), h1, if_neg (by simp), h2, if_neg (by simp), e]
/-- what law 1 makes of a byte -/
def muB (z : Int) : Int := Cmp.muZ (Cmp.fromMuZ z)
theorem muB_t (z : Int) (h0 : 0 ≤ z) (h1 : z ≤ 255) : (muB z = z ∨ (z = 127 ∧ muB z = 255)) ∧ muB z ≠ 127 := by
  obtain ⟨k, rfl⟩ := Int.eq_ofNat_of_zero_le h0
  exact (Cmp.byte_all (p := fun k => (Cmp.muZ (Cmp.fromMuZ (k : Int)) = (k : Int) ∨ ((k : Int) = 127 ∧ Cmp.muZ (Cmp.fromMuZ (k : Int)) = 255)) ∧ Cmp.muZ (Cmp.fromMuZ (k : Int)) ≠ 127) (by decide +kernel)) k (by omega)
theorem tran_mu (bs : List Int) (v i : Int) : tran 0 0 bs v i = (bs.map muB, (v, i), 0) := by
  have h1 : decE 0 bs (2 * ((bs.length : Int) - 4)) = (bs.map Cmp.fromMuZ, 0) := by unfold decE; rw [if_pos rfl]
  have h2 : encE 0 v i (bs.map Cmp.fromMuZ) = ((bs.map Cmp.fromMuZ).map Cmp.muZ, (v, i), 0) := by unfold encE; rw [if_pos rfl]
  unfold tran
  rw [if_neg (by decide), if_neg (fun h => absurd h.1 (by decide)), h1, if_neg (by simp), h2, if_neg (by simp), List.map_map]
  rfl
end Go.Proofs.YtahbecinkciahaaGreat.Sb
/- The frame of a law's row: what its arguments read as when they are opened, and that they read so behind a call that only makes new memory. -/
namespace Go.Proofs.YtahbecinkciahaaGreat
open Go.ChangeShapes Go.WideShapes Go.ChangeAt Go.RowKit
set_option linter.unusedVariables false

theorem frameOwn : ownKnob Tryz.prog.godebug = none := by kernel_rfl
theorem frameLaid : laidOutB Tryz.prog = true := by kernel_rfl

section
variable {H : Type} {enc : TypeId × Value → H} {P : Program}
/-- ARGS: all arguments read as before. -/
theorem below_trodAll (hl : laidOutB P = true) {W W' : World} (hb : Below W.heap.size W W') : ∀ (ts : List TypeId) (vs : List Value) (ds : List (DataW H)) (ps : List MemPlace),
    (∀ t ∈ ts, P.readableRec t = true ∧ t < P.types.size) → (∀ x ∈ ps, x.block < W.heap.size) → DataW.TrodAll enc P W 0 (fun _ => true) true ts vs ds ps →
      DataW.TrodAll enc P W' 0 (fun b => decide (b < W.heap.size)) true ts vs ds ps
  | [], vs, ds, ps, _, _, h => by
    obtain ⟨rfl, rfl, rfl⟩ := trodAll_nil h
    exact trodAll_mk0
  | t :: ts, vs, ds, ps, hr, hlt, h => by
    obtain ⟨v0, vs0, d0, ds0, p0, q0, rfl, rfl, rfl, h0, r0⟩ := trodAll_cons h
    have ht := hr t (List.mem_cons_self ..)
    exact trodAll_cons_mk (Below.trod hl ht.1 ht.2 h0 hb fun x hx => hlt x (List.mem_append_left _ hx))
      (below_trodAll hl hb ts vs0 ds0 q0 (fun u hu => hr u (List.mem_cons_of_mem _ hu)) (fun x hx => hlt x (List.mem_append_right _ hx)) r0)

theorem cell_lt {w : World} {a : Addr} {v : Value} (h : w.cell? a = some v) : a.block < w.heap.size := by
  rcases Nat.lt_or_ge a.block w.heap.size with h1 | h1
  · exact h1
  · unfold World.cell? at h
    rw [Array.getElem?_eq_none h1] at h
    split at h <;> simp_all

/-- AN ARGUMENT THAT IS A SLICE OF INTEGERS. -/
theorem open_ints' {W : World} {r : Reach} {b0 base : Nat} {spare : Nat → Bool} {held : Bool} {t e : TypeId} {k : IntKind} {v : Value} {d : DataW H} {p : List MemPlace} (ht : P.underlying t = some (.slice e)) (he : P.underlying e = some (.int k)) (hc : P.cellsOf e = 1)
    (hv : Value.okWide P W r b0 t v) (h : DataW.Trod enc P W base spare held t v d p) :
    ∃ (A : Option Addr) (zs : List Int) (cap : Nat), v = .slice A zs.length cap ∧ zs.length ≤ cap ∧ cap ≤ maxLen ∧ IntsAt W W.heap.size k A zs ∧ ∀ n ∈ zs, (Lit.int k n).wf = true := by
  obtain ⟨A, len, cap, rfl⟩ := okWide_slice ht hv
  obtain ⟨fuel, hf⟩ := h
  rcases open_ints ht he hc hf with ⟨hcs, _⟩ | ⟨x, l, c, zs, hcs, _, hl, hm, hz, _, hcell, hwz⟩
  · simp [Value.cells] at hcs
    obtain ⟨rfl, rfl, rfl⟩ := hcs
    exact ⟨none, [], 0, rfl, Nat.le_refl _, by unfold maxLen; omega, IntsAt.nil, fun n hn => by cases hn⟩
  · simp [Value.cells] at hcs
    obtain ⟨rfl, rfl, rfl⟩ := hcs
    have hlen : (zs.take len).length = len := by
      rw [List.length_take, hz]
      split <;> omega
    refine ⟨some x, zs.take len, cap, by rw [hlen], by rw [hlen]; exact hl, hm, fun h0 => ?_, fun n hn => hwz n (List.mem_of_mem_take hn)⟩
    have hz' : len ≤ zs.length := by rw [hz]; split <;> omega
    have h00 := hcell 0 (by omega)
    have hsp := World.cell?_spot h00
    obtain ⟨b, off, spot⟩ := x
    have hsp' : spot = none := by simpa [Addr.add] using hsp
    subst hsp'
    refine ⟨b, off, rfl, by simpa [Addr.add] using cell_lt h00, fun i hi => ?_⟩
    rw [hlen] at hi
    have h2 : (zs.take len).getD i 0 = zs.getD i 0 := by simp [List.getD_eq_getElem?_getD, hi]
    rw [h2, ← hcell i (by omega)]
    by_cases h0 : i = 0
    · subst h0; rfl
    · simp [Addr.add, h0]
end
/-- a literal's new block reads as the literal's numbers -/
theorem IntsAt.new (w : World) (e : TypeId) (k : IntKind) (zs : List Int) (cs : List Value) (h : cs = zs.map (Value.int k)) : IntsAt (w.alloc (.cells cs.toArray e)) (w.alloc (.cells cs.toArray e)).heap.size k (some ⟨w.heap.size, 0, none⟩) zs := fun _ => by
  refine ⟨w.heap.size, 0, rfl, by simp, fun i hi => ?_⟩
  rw [Nat.zero_add, Blk_cell, h, List.getElem?_map, List.getElem?_eq_getElem hi, List.getD_eq_getElem?_getD, List.getElem?_eq_getElem hi]
  rfl
end Go.Proofs.YtahbecinkciahaaGreat
/- Words for the walks of the laws: what is carried over calls that only make new memory, and over new blocks. -/
namespace Go.Proofs.YtahbecinkciahaaGreat
open Go.RowKit
set_option linter.unusedVariables false
theorem cell_old {W w' : World} {a : Addr} {v : Value} (hb : Below W.heap.size W w') (h : W.cell? a = some v) : w'.cell? a = some v := (hb.cell (cell_lt h)).trans h
theorem below_old' {w W w' : World} (hb : Below W.heap.size W w') (h : Below w.heap.size w W) : Below w.heap.size w w' := h.trans (hb.mono h.size)
theorem below_new_old {w W : World} (h : Below w.heap.size w W) (o : Obj) : Below w.heap.size w (W.alloc o) := h.alloc h.size o
theorem below_set_old {B : Nat} {w W : World} {p : Addr} (h : Below B w W) (hp : B ≤ p.block) (u : Value) : Below B w (W.setCell p u) := h.setCell hp u
/-- what a function that returns a slice of integers and an error leaves -/
def RetInts (k : IntKind) (l : List Int) (er : Int) (w : World) (e : Ending) (w' : World) : Prop :=
  ∃ (A' : Option Addr) (c' : Nat), e = .returned (.tuple #[.slice A' l.length c', .int .u8 er]) ∧ IntsAt w' w'.heap.size k A' l ∧ Below w.heap.size w w'
/-- since w, only new memory has been written -/
def Bel (w W : World) : Prop := Below w.heap.size w W
theorem Bel.refl (w : World) : Bel w w := Below.refl _ _
theorem Bel.later {w W w' : World} (h : Bel w W) (hb : Below W.heap.size W w') : Bel w w' := h.trans (hb.mono h.size)
theorem Bel.push {w W : World} (h : Bel w W) (o : Obj) : Bel w (W.alloc o) := h.alloc h.size o
theorem Bel.drew {w W : World} (h : Bel w W) : Bel w W.drew := Below.drew h
theorem Bel.drewN {w W : World} (h : Bel w W) (n : Nat) : Bel w (W.drewN n) := ⟨h.os, h.tape, h.output, h.size, h.block⟩
theorem Blk.push {w : World} {g : Nat} {t : TypeId} {cs : Array Value} (h : Blk w g t cs) (o : Obj) : Blk (w.alloc o) g t cs := h.alloc o
theorem Blk.new1 (w : World) (o1 : Obj) (t : TypeId) (cs : Array Value) : Blk ((w.alloc o1).alloc (.cells cs t)) (w.heap.size + 1) t cs := by
  have h := Blk.new (w.alloc o1) t cs
  simpa using h
theorem Blk.new2 (w : World) (o1 o2 : Obj) (t : TypeId) (cs : Array Value) : Blk (((w.alloc o1).alloc o2).alloc (.cells cs t)) (w.heap.size + 1 + 1) t cs := by
  have h := Blk.new ((w.alloc o1).alloc o2) t cs
  simpa using h
theorem IntsAt.push {w : World} {k : IntKind} {A : Option Addr} {zs : List Int} (h : IntsAt w w.heap.size k A zs) (o : Obj) : IntsAt (w.alloc o) (w.alloc o).heap.size k A zs :=
  (h.alloc (Nat.le_refl _) o).more (by simp)
end Go.Proofs.YtahbecinkciahaaGreat
/- Opening arguments: a struct of scalars and slices by its leaves, a slice of such structs as a list. Over any program. -/
namespace Go.Proofs.YtahbecinkciahaaGreat
open Go.ChangeShapes Go.WideShapes Go.ChangeAt Go.RowKit Go.Deep
set_option linter.unusedVariables false

/-- the leaves of fields, in order; each field must begin where the one before ends -/
def flatFs (g : TypeId → Option (List TypeId)) : List Field → Nat → Option (List TypeId)
  | [], _ => some []
  | f :: fs, o => if f.offset = o then (g f.type).bind fun l => (flatFs g fs (o + l.length)).map (l ++ ·) else none
/-- the types of a type's cells, where each is an integer, a bool, a string or a slice -/
def flat (P : Program) : Nat → TypeId → Option (List TypeId)
  | 0, _ => none
  | n + 1, t => match P.underlying t with
    | some (.struct fs) => (flatFs (flat P n) fs.toList 0).bind fun l => if l.length = P.cellsOf t then some l else none
    | some (.int _) => some [t]
    | some .bool => some [t]
    | some .string => some [t]
    | some (.slice _) => some [t]
    | _ => none

/-- the cells from o on are those of the list -/
def AllAt (cs : List Value) : Nat → List Value → Prop
  | _, [] => True
  | o, v :: L => cs[o]? = some v ∧ AllAt cs (o + 1) L
theorem AllAt.get {cs : List Value} : ∀ {L : List Value} {o : Nat}, AllAt cs o L → ∀ (i : Nat) (v : Value), L[i]? = some v → cs[o + i]? = some v
  | [], o, _, i, v, h => by simp at h
  | u :: L, o, h, 0, v, hv => by
    simp at hv
    subst hv
    exact h.1
  | u :: L, o, h, i + 1, v, hv => by
    have := AllAt.get h.2 i v (by simpa using hv)
    rw [← this]; congr 1; omega
theorem AllAt.eq {cs L : List Value} (h : AllAt cs 0 L) (hl : cs.length = L.length) : cs = L := by
  refine List.ext_getElem? fun i => ?_
  by_cases hi : i < L.length
  · rw [List.getElem?_eq_getElem hi]
    have := h.get i _ (List.getElem?_eq_getElem hi)
    simpa using this
  · rw [List.getElem?_eq_none (by omega), List.getElem?_eq_none (by omega)]
section
variable {H : Type} {enc : TypeId × Value → H} {P : Program} {w : World} {base : Nat} {spare : Nat → Bool} {held : Bool}
/-- a cell reads as a value of type t -/
def Leaf (enc : TypeId × Value → H) (P : Program) (w : World) (base : Nat) (spare : Nat → Bool) (held : Bool) (t : TypeId) (v : Value) : Prop := ∃ n y, DataW.trod enc P w base spare held n t [v] = some y

theorem flatFs_ok {g : TypeId → Option (List TypeId)} {cs : List Value} {ok : TypeId → Value → Prop} : ∀ (fs : List Field) (o : Nat) (ls : List TypeId), flatFs g fs o = some ls →
    (∀ f ∈ fs, ∀ l, g f.type = some l → ((cs.drop f.offset).take (P.cellsOf f.type)).length = l.length ∧ ∀ (i : Nat) (lt : TypeId), l[i]? = some lt → ∃ v, ((cs.drop f.offset).take (P.cellsOf f.type))[i]? = some v ∧ ok lt v) →
    ∀ (i : Nat) (lt : TypeId), ls[i]? = some lt → ∃ v, cs[o + i]? = some v ∧ ok lt v
  | [], o, ls, h, _, i, lt, hi => by
    injection h with h
    subst h
    simp at hi
  | f :: fs, o, ls, h, hf, i, lt, hi => by
    unfold flatFs at h
    by_cases ho : f.offset = o
    · rw [if_pos ho] at h
      rw [Option.bind_eq_some_iff] at h
      obtain ⟨l, hl, h⟩ := h
      rw [Option.map_eq_some_iff] at h
      obtain ⟨r, hr, rfl⟩ := h
      obtain ⟨h1, h2⟩ := hf f (List.mem_cons_self ..) l hl
      by_cases hi' : i < l.length
      · rw [List.getElem?_append_left hi'] at hi
        obtain ⟨v, hv, hv2⟩ := h2 i lt hi
        refine ⟨v, ?_, hv2⟩
        rw [List.getElem?_take, List.getElem?_drop, ho] at hv
        split at hv
        · exact hv
        · cases hv
      · rw [List.getElem?_append_right (by omega)] at hi
        obtain ⟨v, hv, hv2⟩ := flatFs_ok fs (o + l.length) r hr (fun f' hf' => hf f' (List.mem_cons_of_mem _ hf')) (i - l.length) lt hi
        exact ⟨v, by rw [← hv]; congr 1; omega, hv2⟩
    · rw [if_neg ho] at h
      cases h

theorem flat_trod : ∀ (n m : Nat) (t : TypeId) (ls : List TypeId) (cs : List Value) (x : DataW H × List MemPlace), flat P n t = some ls → DataW.trod enc P w base spare held m t cs = some x →
    cs.length = ls.length ∧ ∀ (i : Nat) (lt : TypeId), ls[i]? = some lt → ∃ v, cs[i]? = some v ∧ Leaf enc P w base spare held lt v
  | 0, m, t, ls, cs, x, h, _ => by cases h
  | n + 1, m, t, ls, cs, x, h, hx => by
    have one : ∀ v, cs = [v] → ls = [t] → cs.length = ls.length ∧ ∀ (i : Nat) (lt : TypeId), ls[i]? = some lt → ∃ v, cs[i]? = some v ∧ Leaf enc P w base spare held lt v := by
      rintro v rfl rfl
      refine ⟨rfl, fun i lt hi => ?_⟩
      have h0 : i = 0 := by
        have := (List.getElem?_eq_some_iff.1 hi).1
        simpa using this
      subst h0
      injection hi with hi
      subst hi
      exact ⟨v, rfl, m, x, hx⟩
    unfold flat at h
    split at h
    · rename_i fs ht
      rw [Option.bind_eq_some_iff] at h
      obtain ⟨l, hl, h⟩ := h
      by_cases hc : l.length = P.cellsOf t
      · rw [if_pos hc] at h
        injection h with h
        subst h
        obtain ⟨xs, k, _, rfl, hlen, hsz, hf⟩ := DataW.trod_struct ht hx
        refine ⟨by rw [hlen, hc], fun i lt hi => ?_⟩
        have := flatFs_ok (P := P) (cs := cs) (ok := Leaf enc P w base spare held) fs.toList 0 l hl (fun f hfm l' hl' => by
          obtain ⟨j, hj, rfl⟩ := List.mem_iff_getElem.1 hfm
          have hj' : fs[j]? = some (fs.toList[j]) := by simp at hj ⊢
          have hj2 : j < xs.length := by simp at hj; omega
          have h2 := hf j _ hj'
          rw [List.getElem?_eq_getElem hj2] at h2
          exact flat_trod n k _ l' _ _ hl' h2) i lt hi
        simpa using this
      · rw [if_neg hc] at h
        cases h
    · rename_i k ht
      injection h with h
      obtain ⟨z, hz, _⟩ := DataW.trod_int ht hx
      exact one _ hz h.symm
    · rename_i ht
      injection h with h
      obtain ⟨z, hz, _⟩ := DataW.trod_bool ht hx
      exact one _ hz h.symm
    · rename_i ht
      injection h with h
      obtain ⟨z, hz, _⟩ := DataW.trod_string ht hx
      exact one _ hz h.symm
    · rename_i e ht
      injection h with h
      rcases open_slice ht hx with ⟨hz, _⟩ | ⟨a, len, cap, _, _, _, _, hz, _⟩
      · exact one _ hz h.symm
      · exact one _ hz h.symm
    · cases h
theorem Leaf.int {t : TypeId} {v : Value} {k : IntKind} (h : Leaf enc P w base spare held t v) (ht : P.underlying t = some (.int k)) : ∃ z, v = .int k z ∧ (Lit.int k z).wf = true := by
  obtain ⟨n, y, h⟩ := h
  obtain ⟨z, hz, _, hw⟩ := DataW.trod_int ht h
  injection hz with hz
  exact ⟨z, hz, hw⟩
theorem Leaf.bool {t : TypeId} {v : Value} (h : Leaf enc P w base spare held t v) (ht : P.underlying t = some .bool) : ∃ z, v = .bool z := by
  obtain ⟨n, y, h⟩ := h
  obtain ⟨z, hz, _⟩ := DataW.trod_bool ht h
  injection hz with hz
  exact ⟨z, hz⟩
theorem block_add' (a : Addr) (n : Nat) : (a.add n).block = a.block := by unfold Addr.add; split <;> rfl
theorem cells?_nth {a : Addr} {n : Nat} {cs : List Value} (h : w.cells? base a n = some cs) {j : Nat} {v : Value} (hv : cs[j]? = some v) : w.cell? (a.add j) = some v := by
  obtain ⟨_, hl, hc⟩ := World.cells?_some h
  rw [hc j (by have := (List.getElem?_eq_some_iff.1 hv).1; omega), hv]
theorem cells?_len {a : Addr} {n : Nat} {cs : List Value} (h : w.cells? base a n = some cs) : cs.length = n := (World.cells?_some h).2.1
theorem ints_of {t e : TypeId} {k : IntKind} {A : Option Addr} {len cap : Nat} (ht : P.underlying t = some (.slice e)) (he : P.underlying e = some (.int k)) (hc : P.cellsOf e = 1)
    (h : ∃ n y, DataW.trod enc P w base spare held n t [.slice A len cap] = some y) :
    ∃ (A' : Option Addr) (zs : List Int) (cap' : Nat), Value.slice A len cap = .slice A' zs.length cap' ∧ zs.length ≤ cap' ∧ cap' ≤ maxLen ∧ IntsAt w w.heap.size k A' zs ∧ ∀ n ∈ zs, (Lit.int k n).wf = true := by
  obtain ⟨fuel, y, hf⟩ := h
  rcases open_ints ht he hc hf with ⟨hcs, _⟩ | ⟨x, l, c, zs, hcs, _, hl, hm, hz, _, hcell, hwz⟩
  · simp at hcs
    obtain ⟨rfl, rfl, rfl⟩ := hcs
    exact ⟨none, [], 0, rfl, Nat.le_refl _, by unfold maxLen; omega, IntsAt.nil, fun n hn => by cases hn⟩
  · simp at hcs
    obtain ⟨rfl, rfl, rfl⟩ := hcs
    have hlen : (zs.take len).length = len := by
      rw [List.length_take, hz]
      split <;> omega
    refine ⟨some x, zs.take len, cap, by rw [hlen], by rw [hlen]; exact hl, hm, fun h0 => ?_, fun n hn => hwz n (List.mem_of_mem_take hn)⟩
    have hz' : len ≤ zs.length := by rw [hz]; split <;> omega
    have h00 := hcell 0 (by omega)
    have hsp := World.cell?_spot h00
    obtain ⟨b, off, spot⟩ := x
    have hsp' : spot = none := by simpa [Addr.add] using hsp
    subst hsp'
    refine ⟨b, off, rfl, by simpa [Addr.add] using cell_lt h00, fun i hi => ?_⟩
    rw [hlen] at hi
    have h2 : (zs.take len).getD i 0 = zs.getD i 0 := by simp [List.getD_eq_getElem?_getD, hi]
    rw [h2, ← hcell i (by omega)]
    by_cases h0 : i = 0
    · subst h0; rfl
    · simp [Addr.add, h0]
/-- a slice of integers among the cells -/
theorem Leaf.ints {t e : TypeId} {v : Value} {k : IntKind} (h : Leaf enc P w base spare held t v) (ht : P.underlying t = some (.slice e)) (he : P.underlying e = some (.int k)) (hc : P.cellsOf e = 1) :
    ∃ (A : Option Addr) (zs : List Int) (cap : Nat), v = .slice A zs.length cap ∧ zs.length ≤ cap ∧ cap ≤ maxLen ∧ IntsAt w w.heap.size k A zs ∧ ∀ n ∈ zs, (Lit.int k n).wf = true := by
  obtain ⟨n, y, h⟩ := h
  have hv : ∃ A len cap, v = .slice A len cap := by
    rcases open_slice ht h with ⟨hcs, _⟩ | ⟨x, l, c, _, _, _, _, hcs, _⟩
    · injection hcs with hcs; exact ⟨_, _, _, hcs⟩
    · injection hcs with hcs; exact ⟨_, _, _, hcs⟩
  obtain ⟨A, len, cap, rfl⟩ := hv
  exact ints_of ht he hc ⟨n, y, h⟩
/-- Rows of cells, one for each element of l, lie one behind the other from the slice address A on, in a block below B. -/
def RowsAt {α : Type} (w : World) (B size : Nat) (row : α → List Value) (A : Option Addr) (l : List α) : Prop :=
  0 < l.length → ∃ b off, A = some ⟨b, off, none⟩ ∧ b < B ∧ ∀ (i : Nat) (a : α), l[i]? = some a → ∀ (j : Nat) (v : Value), (row a)[j]? = some v → w.cell? ⟨b, off + i * size + j, none⟩ = some v
theorem choose_list {α : Type} {Q : Nat → α → Prop} : ∀ (n : Nat), (∀ i, i < n → ∃ a, Q i a) → ∃ l : List α, l.length = n ∧ ∀ (i : Nat) (a : α), l[i]? = some a → Q i a
  | 0, _ => ⟨[], rfl, fun i a h => by simp at h⟩
  | n + 1, h => by
    obtain ⟨l, hl, hQ⟩ := choose_list n fun i hi => h i (by omega)
    obtain ⟨a, ha⟩ := h n (by omega)
    refine ⟨l ++ [a], by simp [hl], fun i b hb => ?_⟩
    by_cases hi : i < l.length
    · rw [List.getElem?_append_left hi] at hb; exact hQ i b hb
    · have hi2 : i = n := by
        have := (List.getElem?_eq_some_iff.1 hb).1
        simp at this; omega
      subst hi2
      rw [List.getElem?_append_right (by omega), hl] at hb
      simp at hb
      subst hb
      exact ha
/-- A slice of structs among the cells: a list, given what one element's cells are. -/
theorem Leaf.rows {α : Type} {row : α → List Value} {ok : α → Prop} {t e : TypeId} {v : Value} {size : Nat} (h : Leaf enc P w base spare held t v) (ht : P.underlying t = some (.slice e)) (hsz : P.cellsOf e = size) (h0 : 0 < size)
    (hopen : ∀ n cs x, DataW.trod enc P w base spare held n e cs = some x → ∃ a, cs = row a ∧ ok a) :
    ∃ (A : Option Addr) (l : List α) (cap : Nat), v = .slice A l.length cap ∧ l.length ≤ cap ∧ cap ≤ maxLen ∧ RowsAt w w.heap.size size row A l ∧ ∀ a ∈ l, ok a := by
  obtain ⟨n, y, h⟩ := h
  rcases open_slice ht h with ⟨hcs, _⟩ | ⟨x, len, cap, m, k, D, Pl, hcs, hb, hlc, hcm, hm, _, hel⟩
  · injection hcs with hcs
    subst hcs
    exact ⟨none, [], 0, rfl, Nat.le_refl _, by unfold maxLen; omega, fun h => absurd h (by simp), fun a ha => by cases ha⟩
  · injection hcs with hcs
    subst hcs
    have hml : len ≤ m := by rw [hm]; split <;> omega
    obtain ⟨l, hl, hQ⟩ := choose_list (Q := fun i a => w.cells? base (x.add (i * size)) size = some (row a) ∧ ok a) len (fun i hi => by
      obtain ⟨cs', h1, h2⟩ := hel i (by omega)
      obtain ⟨a, rfl, ha⟩ := hopen _ _ _ h2
      rw [hsz] at h1
      exact ⟨a, h1, ha⟩)
    refine ⟨some x, l, cap, by rw [hl], by omega, hcm, fun hpos => ?_, fun a ha => ?_⟩
    · obtain ⟨a0, ha0⟩ : ∃ a0, l[0]? = some a0 := ⟨_, List.getElem?_eq_getElem hpos⟩
      have h00 := (hQ 0 a0 ha0).1
      have hcell : ∀ (i : Nat) (a : α), l[i]? = some a → ∀ (j : Nat) (v : Value), (row a)[j]? = some v → w.cell? ((x.add (i * size)).add j) = some v := fun i a ha j v hv => cells?_nth (hQ i a ha).1 hv
      have hlen0 : (row a0).length = size := cells?_len h00
      obtain ⟨v0, hv0⟩ : ∃ v0, (row a0)[0]? = some v0 := ⟨_, List.getElem?_eq_getElem (by omega)⟩
      have hc0 := hcell 0 a0 ha0 0 v0 hv0
      have hsp := World.cell?_spot hc0
      obtain ⟨b, off, spot⟩ := x
      have hsp' : spot = none := by simpa [Addr.add] using hsp
      subst hsp'
      refine ⟨b, off, rfl, ?_, fun i a ha j v hv => ?_⟩
      · have := cell_lt hc0
        simpa [block_add'] using this
      · have := hcell i a ha j v hv
        rw [← this]
        congr 1
        simp only [Addr.add]
        repeat' split
        all_goals simp_all
        all_goals omega
    · obtain ⟨i, hi, rfl⟩ := List.mem_iff_getElem.1 ha
      exact (hQ i _ (List.getElem?_eq_getElem hi)).2
end
end Go.Proofs.YtahbecinkciahaaGreat
/- Slices of structs: what the call owns reads as a list of rows; it stays so in later worlds. -/
namespace Go.Proofs.YtahbecinkciahaaGreat
open Go.RowKit
set_option linter.unusedVariables false
section
variable {α : Type} {row : α → List Value} {w w' : World} {B size : Nat} {A : Option Addr} {l : List α}
theorem RowsAt.nil : RowsAt w B size row A [] := fun h => absurd h (by simp)
theorem RowsAt.keep (h : RowsAt w B size row A l) (hk : ∀ p : Addr, p.block < B → w'.cell? p = w.cell? p) : RowsAt w' B size row A l := fun h0 => by
  obtain ⟨b, off, rfl, hb, hc⟩ := h h0
  exact ⟨b, off, rfl, hb, fun i a ha j v hv => (hk _ hb).trans (hc i a ha j v hv)⟩
theorem RowsAt.more {B' : Nat} (h : RowsAt w B size row A l) (hB : B ≤ B') : RowsAt w B' size row A l := fun h0 => by
  obtain ⟨b, off, rfl, hb, hc⟩ := h h0
  exact ⟨b, off, rfl, by omega, hc⟩
theorem RowsAt.later (h : RowsAt w w.heap.size size row A l) (hb : Below w.heap.size w w') : RowsAt w' w'.heap.size size row A l := (h.keep fun _ hp => hb.cell hp).more hb.size
theorem RowsAt.push (h : RowsAt w w.heap.size size row A l) (o : Obj) : RowsAt (w.alloc o) (w.alloc o).heap.size size row A l := (h.keep fun p hp => World.cell?_alloc_lt w o p hp).more (by simp)
theorem RowsAt.setCell (h : RowsAt w B size row A l) {p : Addr} (hB : B ≤ p.block) (u : Value) : RowsAt (w.setCell p u) B size row A l :=
  h.keep fun q hq => World.cell?_setCell_other w p q u (fun e => by subst e; omega)
theorem flat_get (hr : ∀ a, (row a).length = size) : ∀ (l : List α) (i : Nat) (a : α), l[i]? = some a → ∀ (j : Nat) (v : Value), (row a)[j]? = some v → (l.flatMap row)[i * size + j]? = some v
  | [], i, a, h, _, _, _ => by simp at h
  | b :: l, 0, a, h, j, v, hv => by
    simp at h
    subst h
    rw [List.flatMap_cons, Nat.zero_mul, Nat.zero_add, List.getElem?_append_left (List.getElem?_eq_some_iff.1 hv).1]
    exact hv
  | b :: l, i + 1, a, h, j, v, hv => by
    have ih := flat_get hr l i a (by simpa using h) j v hv
    rw [List.flatMap_cons, List.getElem?_append_right (by rw [hr, Nat.succ_mul]; omega), hr]
    rw [← ih]; congr 1
    rw [Nat.succ_mul]; omega
/-- what the call owns, as rows -/
theorem Owns.rows {base n c : Nat} {e : TypeId} (h : Owns w base e size A n c (l.flatMap row)) (hn : l.length = n) (hr : ∀ a, (row a).length = size) : RowsAt w w.heap.size size row A l := fun h0 => by
  obtain ⟨g, rfl, hg, hlt⟩ := Owns.form h (by omega)
  refine ⟨g, 0, rfl, hlt, fun i a ha j v hv => ?_⟩
  have hc := World.ownsRow.cells (g := g) h rfl (i * size + j) v (flat_get hr l i a ha j v hv)
  rw [← hc]
  by_cases h1 : i * size + j = 0
  · rw [h1]
    have : (⟨g, 0 + i * size + j, none⟩ : Addr) = ⟨g, 0, none⟩ := by congr 1; omega
    rw [this]; rfl
  · simp only [Addr.add, h1, if_false]
    congr 2; omega
end
/-- rows that a call has made: in a block from n on -/
def RowsNew {α : Type} (n : Nat) (w : World) (size : Nat) (row : α → List Value) (A : Option Addr) (l : List α) : Prop :=
  RowsAt w w.heap.size size row A l ∧ (0 < l.length → ∀ b off, A = some ⟨b, off, none⟩ → n ≤ b)
section
variable {α : Type} {row : α → List Value} {w w' : World} {B n size : Nat} {A : Option Addr} {l : List α}
theorem RowsNew.nil : RowsNew n w size row A [] := ⟨RowsAt.nil, fun h => absurd h (by simp)⟩
theorem RowsNew.later (h : RowsNew n w size row A l) (hb : Below w.heap.size w w') : RowsNew n w' size row A l := ⟨h.1.later hb, h.2⟩
theorem RowsNew.push (h : RowsNew n w size row A l) (o : Obj) : RowsNew n (w.alloc o) size row A l := ⟨h.1.push o, h.2⟩
theorem RowsNew.less {m : Nat} (h : RowsNew n w size row A l) (hm : m ≤ n) : RowsNew m w size row A l := ⟨h.1, fun h0 b off e => Nat.le_trans hm (h.2 h0 b off e)⟩
theorem RowsNew.setCell (h : RowsNew n w size row A l) {p : Addr} (hp : p.block < n) (u : Value) : RowsNew n (w.setCell p u) size row A l := by
  refine ⟨fun h0 => ?_, h.2⟩
  obtain ⟨b, off, rfl, hb, hc⟩ := h.1 h0
  have hn := h.2 h0 b off rfl
  refine ⟨b, off, rfl, by simpa [World.setCell] using hb, fun i a ha j v hv => ?_⟩
  rw [World.cell?_setCell_other w p _ u (fun e => by subst e; simp at hp; omega)]
  exact hc i a ha j v hv
end
end Go.Proofs.YtahbecinkciahaaGreat
/- A variable of several cells that was made ahead of a call and is written behind it, cell by cell. -/
namespace Go.Proofs.YtahbecinkciahaaGreat
open Go.RowKit
set_option linter.unusedVariables false
theorem and_dep {p q : Prop} (h : p) (f : p → q) : p ∧ q := ⟨h, f h⟩
theorem size_alloc1 (w : World) (a : Obj) : (w.alloc a).heap.size = w.heap.size + 1 := by simp
theorem size_alloc2 (w : World) (a b : Obj) : ((w.alloc a).alloc b).heap.size = w.heap.size + 1 + 1 := by simp
theorem size_alloc3 (w : World) (a b c : Obj) : (((w.alloc a).alloc b).alloc c).heap.size = w.heap.size + 1 + 1 + 1 := by simp
/-- the cells of block g from i on are written -/
def setRow (g : Nat) : World → Nat → List Value → World
  | w, _, [] => w
  | w, i, v :: vs => setRow g (w.setCell ⟨g, i, none⟩ v) (i + 1) vs
theorem setRow_size (g : Nat) : ∀ (vs : List Value) (w : World) (i : Nat), (setRow g w i vs).heap.size = w.heap.size
  | [], _, _ => rfl
  | v :: vs, w, i => by
    unfold setRow
    rw [setRow_size g vs]
    simp [World.setCell]
theorem below_setRow {B g : Nat} {W : World} (hB : B ≤ g) : ∀ (vs : List Value) (w : World) (i : Nat), Below B W w → Below B W (setRow g w i vs)
  | [], _, _, h => h
  | v :: vs, w, i, h => below_setRow hB vs _ (i + 1) (h.setCell hB v)
theorem RowsNew.setRow {α : Type} {row : α → List Value} {g n size : Nat} {A : Option Addr} {l : List α} (hg : g < n) : ∀ (vs : List Value) (w : World) (i : Nat), RowsNew n w size row A l → RowsNew n (setRow g w i vs) size row A l
  | [], _, _, h => h
  | v :: vs, w, i, h => RowsNew.setRow hg vs _ (i + 1) (RowsNew.setCell h hg v)
/-- the cells ahead of i, then the new ones -/
theorem Blk.setRow_ {g : Nat} {t : TypeId} : ∀ (vs : List Value) (w : World) (i : Nat) (cs : Array Value), Blk w g t cs → cs.size = i + vs.length → Blk (setRow g w i vs) g t (cs.toList.take i ++ vs).toArray
  | [], w, i, cs, h, hs => by
    have : (cs.toList.take i ++ []).toArray = cs := by
      simp at hs
      rw [List.append_nil, List.take_of_length_le (by simp; omega)]
    rw [this]; exact h
  | v :: vs, w, i, cs, h, hs => by
    have h2 := Blk.setRow_ vs (w.setCell ⟨g, i, none⟩ v) (i + 1) _ (h.set_ i v) (by simp at hs ⊢; omega)
    have he : ((cs.setIfInBounds i v).toList.take (i + 1) ++ vs) = cs.toList.take i ++ v :: vs := by
      have hi : i < cs.size := by simp at hs; omega
      simp only [Array.toList_setIfInBounds]
      rw [List.take_succ_eq_append_getElem (by simpa using hi)]
      simp [List.take_set_of_le]
    rw [he] at h2
    exact h2
theorem Blk.setRow {g : Nat} {t : TypeId} {w : World} {cs : Array Value} (h : Blk w g t cs) (vs : List Value) (hs : cs.size = vs.length) : Blk (setRow g w 0 vs) g t vs.toArray := by
  have := Blk.setRow_ vs w 0 cs h (by omega)
  simpa using this
theorem Blk.farRow {g g' : Nat} {t : TypeId} {cs : Array Value} (hg : g ≠ g') : ∀ (vs : List Value) (w : World) (i : Nat), Blk w g t cs → Blk (Go.Proofs.YtahbecinkciahaaGreat.setRow g' w i vs) g t cs
  | [], _, _, h => h
  | v :: vs, w, i, h => Blk.farRow hg vs _ (i + 1) (h.far (by exact hg) v)
theorem Owns.setRow {base size n c : Nat} {e : TypeId} {A : Option Addr} {xs : List Value} (g : Nat) : ∀ (vs : List Value) (w : World) (i : Nat), (∀ b, ownB A = some b → b ≠ g) → Owns w base e size A n c xs → Owns (Go.Proofs.YtahbecinkciahaaGreat.setRow g w i vs) base e size A n c xs
  | [], _, _, _, h => h
  | v :: vs, w, i, hb, h => Owns.setRow g vs _ (i + 1) hb (h.setCell (fun b he => hb b he) v)
/-- integers that a call has made: in a block from n on -/
def IntsNew (n : Nat) (w : World) (k : IntKind) (A : Option Addr) (zs : List Int) : Prop := IntsAt w w.heap.size k A zs ∧ (0 < zs.length → ∀ b off, A = some ⟨b, off, none⟩ → n ≤ b)
section
variable {w w' : World} {B n : Nat} {k : IntKind} {A : Option Addr} {zs : List Int}
theorem IntsNew.nil : IntsNew n w k A [] := ⟨IntsAt.nil, fun h => absurd h (by simp)⟩
theorem IntsNew.later (h : IntsNew n w k A zs) (hb : Below w.heap.size w w') : IntsNew n w' k A zs := ⟨h.1.later hb, h.2⟩
theorem IntsNew.push (h : IntsNew n w k A zs) (o : Obj) : IntsNew n (w.alloc o) k A zs := ⟨h.1.push o, h.2⟩
theorem IntsNew.less {m : Nat} (h : IntsNew n w k A zs) (hm : m ≤ n) : IntsNew m w k A zs := ⟨h.1, fun h0 b off e => Nat.le_trans hm (h.2 h0 b off e)⟩
theorem IntsNew.setCell (h : IntsNew n w k A zs) {p : Addr} (hp : p.block < n) (u : Value) : IntsNew n (w.setCell p u) k A zs := by
  refine ⟨fun h0 => ?_, h.2⟩
  obtain ⟨b, off, rfl, hb, hc⟩ := h.1 h0
  have hn := h.2 h0 b off rfl
  refine ⟨b, off, rfl, by simpa [World.setCell] using hb, fun i hi => ?_⟩
  rw [World.cell?_setCell_other w p _ u (fun e => by subst e; simp at hp; omega)]
  exact hc i hi
theorem IntsNew.of_own {base e : Nat} {n c : Nat} (h : Owns w base e 1 A n c (zs.map (Value.int k))) (hB : B ≤ base := by omega) : IntsNew B w k A zs := by
  refine ⟨IntsAt.of_own h, fun h0 b off e => ?_⟩
  have hn : zs.length = n := by have := h.1; simpa using this
  obtain ⟨g, rfl, hg, hlt⟩ := Owns.form h (by omega)
  injection e with e
  injection e with e1 e2
  omega
end
theorem IntsNew.setRow {k : IntKind} {g n : Nat} {A : Option Addr} {zs : List Int} (hg : g < n) : ∀ (vs : List Value) (w : World) (i : Nat), IntsNew n w k A zs → IntsNew n (setRow g w i vs) k A zs
  | [], _, _, h => h
  | v :: vs, w, i, h => IntsNew.setRow hg vs _ (i + 1) (IntsNew.setCell h hg v)
end Go.Proofs.YtahbecinkciahaaGreat
/- Layer 32: a struct inside a block that is known whole: loads and stores of a partS; overS any program. -/
namespace Go.Proofs.YtahbecinkciahaaGreat
open Go.RowKit
set_option linter.unusedVariables false
set_option linter.unusedSimpArgs false
section
variable {P : Program} {w : World} {g : Nat} {t ty : TypeId} {cs : List Value} {d : TypeDesc}
/-- a type whose values have several cells -/
def aggT : TypeDesc → Bool
  | .struct _ => true
  | .array _ _ => true
  | _ => false
/-- n cells from place i on -/
def partS (cs : List Value) (i n : Nat) : List Value := (cs.drop i).take n
theorem run_loadVar_part (hg : Blk w g t cs.toArray) (i n : Nat) (hd : aggT d = true) (hu : P.underlying ty = some d)
    (hi : (P.info? ty).map (·.size) = some n) (hn : i + n ≤ cs.length) : (loadVar ty ⟨g, i, none⟩).run P w = .ok (.agg (partS cs i n).toArray) w := by
  have hlen : (partS cs i n).length = n := by unfold partS; simp; omega
  have hl : (loadCells ⟨g, i, none⟩ (partS cs i n).length).run P w = .ok (partS cs i n).toArray w :=
    run_loadCells_list (P := P) w ⟨g, i, none⟩ (partS cs i n) (fun j v hv => by
      have hadd : (⟨g, i, none⟩ : Addr).add j = ⟨g, i + j, none⟩ := by unfold Addr.add; split <;> simp_all
      have hj : j < n := by rw [← hlen]; exact (List.getElem?_eq_some_iff.1 hv).1
      rw [hadd, hg.cell]
      rw [← hv]
      unfold partS
      simp [List.getElem?_take, hj])
  rw [hlen] at hl
  cases hq : P.info? ty with
  | none => simp [hq] at hi
  | some q =>
    have hs : q.size = n := by simpa [hq] using hi
    have hagg : (isAgg ty).run P w = .ok true w := by
      unfold isAgg
      rw [Sem.run_bind, run_underlying hu w]
      cases d <;> simp_all [aggT]
    simp [loadVar, Sem.run_bind, hagg, sizeOf, typeInfo, hq, hs, hl]
/-- the cells vs written overS the cells from place i on -/
def overS (cs : List Value) (i : Nat) (vs : List Value) : List Value := cs.take i ++ vs ++ cs.drop (i + vs.length)
/-- the world in which block g holds other cells -/
theorem run_storeCells_part : ∀ (vs : List Value) (i j : Nat) (cur : Array Value) (w : World), w.heap[g]? = some (.cells cur t (0, 0)) → i + j + vs.length ≤ cur.size → (∀ v ∈ vs, v.oneCell' = true) →
    (storeCells ⟨g, i, none⟩ vs j).run P w = .ok () (w.setRow g (overS cur.toList (i + j) vs).toArray)
  | [], i, j, cur, w, hg, hl, _ => by
    have e : overS cur.toList (i + j) [] = cur.toList := by unfold overS; simp
    have hlt : g < w.heap.size := (Array.getElem?_eq_some_iff.1 hg).1
    have hv : w.heap[g] = .cells cur t (0, 0) := (Array.getElem?_eq_some_iff.1 hg).2
    simp only [storeCells, e, Array.toArray_toList]
    show Result.ok () w = _
    congr 1
    unfold World.setRow
    cases w with
    | mk heap tape drawn os output =>
      congr 1
      apply Array.ext
      · simp
      · intro k h1 h2
        simp only [Array.getElem_modify]
        split
        · rename_i hk; subst hk; simp at hv; simp [hv]
        · rfl
  | v :: rest, i, j, cur, w, hg, hl, h1 => by
    have hi : i + j < cur.size := by simp at hl; omega
    have hadd : (⟨g, i, none⟩ : Addr).add j = ⟨g, i + j, none⟩ := by unfold Addr.add; split <;> simp_all
    have hcell : w.cell? ⟨g, i + j, none⟩ = some cur[i + j] := by simp [World.cell?, hg, hi]
    have hfro : w.frozen? ⟨g, i + j, none⟩ = false := by simp [World.frozen?, hg]
    have hst : (store ((⟨g, i, none⟩ : Addr).add j) v).run P w = .ok () (w.setRow g (cur.setIfInBounds (i + j) v)) := by
      rw [hadd, run_store P w _ v _ (h1 v (by simp)), hcell]
      simp [hfro, setCell_eq_setRow w g (i + j) cur t (0, 0) v hg]
    have ih := run_storeCells_part rest i (j + 1) (cur.setIfInBounds (i + j) v) (w.setRow g (cur.setIfInBounds (i + j) v)) (setRow_heap w g cur _ t _ hg) (by simp at hl ⊢; omega) (fun x hx => h1 x (by simp [hx]))
    simp only [storeCells, Sem.run_bind, hst, Result.andThen_ok, ih, setRow_setRow]
    congr 3
    unfold overS
    apply List.ext_getElem?
    intro k
    simp only [Array.toList_setIfInBounds, List.getElem?_append, List.length_append, List.length_take, List.length_set, Array.length_toList, List.length_cons, List.getElem?_drop, List.getElem?_take, List.getElem?_set]
    by_cases hk : k < i + j
    · simp [hk, show k < i + (j + 1) by omega, show k < min (i + (j + 1)) cur.size + rest.length by omega, show k < min (i + j) cur.size + (rest.length + 1) by omega, show k < min (i + (j + 1)) cur.size by omega, show k < min (i + j) cur.size by omega, show i + j ≠ k by omega]
    · by_cases hk2 : k = i + j
      · subst hk2
        simp [show i + j < min (i + (j + 1)) cur.size by omega, show i + j < min (i + (j + 1)) cur.size + rest.length by omega, show min (i + j) cur.size = i + j by omega, hi]
      · have m1 : min (i + (j + 1)) cur.size = i + (j + 1) := by omega
        have m2 : min (i + j) cur.size = i + j := by omega
        rw [m1, m2]
        by_cases h3 : k < i + (j + 1) + rest.length
        · simp [h3, show ¬ k < i + (j + 1) by omega, hk, show k < i + j + (rest.length + 1) by omega, show k - (i + j) = (k - (i + (j + 1))) + 1 by omega]
        · simp [h3, show ¬ k < i + j + (rest.length + 1) by omega, show i + (j + 1) + rest.length + (k - (i + (j + 1) + rest.length)) = i + j + (rest.length + 1) + (k - (i + j + (rest.length + 1))) by omega, show i + j ≠ i + j + (rest.length + 1) + (k - (i + j + (rest.length + 1))) by omega]
theorem run_storeVar_part (hg : Blk w g t cs.toArray) (i : Nat) (vs : List Value) (hi : (P.info? ty).map (·.size) = some vs.length) (hn : i + vs.length ≤ cs.length) (h1 : vs.all (·.oneCell') = true) :
    (storeVar ty ⟨g, i, none⟩ (.agg vs.toArray)).run P w = .ok () (w.setRow g (overS cs i vs).toArray) := by
  have := run_storeCells_part (P := P) (g := g) (t := t) vs i 0 cs.toArray w hg (by simpa using hn) (fun v hv => List.all_eq_true.1 h1 v hv)
  cases hq : P.info? ty with
  | none => simp [hq] at hi
  | some q =>
    have hs : vs.length = q.size := by simp [hq] at hi; omega
    simp [storeVar, sizeOf, typeInfo, hq, Value.cells, hs]
    simpa using this
end
/-- only block g has been written -/
def OnlyB (g : Nat) (w w' : World) : Prop := w.grownBy w' (some g) ∧ w'.heap.size = w.heap.size
section
variable {w w' w'' : World} {g : Nat}
theorem OnlyB.refl (w : World) : OnlyB g w w := ⟨World.grownBy.refl w _, rfl⟩
theorem OnlyB.trans (h : OnlyB g w w') (h2 : OnlyB g w' w'') : OnlyB g w w'' :=
  ⟨⟨h2.1.os.trans h.1.os, h2.1.tape.trans h.1.tape, h2.1.output.trans h.1.output, Nat.le_trans h.1.size h2.1.size, fun k hk hne => (h2.1.block k (by rw [h.2]; exact hk) hne).trans (h.1.block k hk hne)⟩, h2.2.trans h.2⟩
theorem OnlyB.setCell (w : World) (g i : Nat) (v : Value) : OnlyB g w (w.setCell ⟨g, i, none⟩ v) := ⟨⟨rfl, rfl, rfl, by simp [World.setCell], fun k _ hne => Below.heap_setCell w ⟨g, i, none⟩ v k (fun e => hne (by rw [e]))⟩, by simp [World.setCell]⟩
theorem OnlyB.setRow (w : World) (g : Nat) (cs : Array Value) : OnlyB g w (w.setRow g cs) := ⟨⟨rfl, rfl, rfl, by simp, fun k _ hne => setRow_other w g k cs (fun e => hne (by rw [e]))⟩, by simp⟩
theorem OnlyB.drew (h : OnlyB g w w') : OnlyB g w w'.drew := ⟨⟨h.1.os, h.1.tape, h.1.output, h.1.size, h.1.block⟩, h.2⟩
theorem OnlyB.cell (h : OnlyB g w w') {p : Addr} (hp : p.block ≠ g) : w'.cell? p = w.cell? p := by
  by_cases hlt : p.block < w.heap.size
  · unfold World.cell?
    rw [h.1.block p.block hlt (fun e => hp (by injection e))]
  · have h1 : w.heap[p.block]? = none := Array.getElem?_eq_none (by omega)
    have h2 : w'.heap[p.block]? = none := Array.getElem?_eq_none (by rw [h.2]; omega)
    unfold World.cell?
    rw [h1, h2]
theorem OnlyB.blk {g' : Nat} {t : TypeId} {cs : Array Value} (h : OnlyB g w w') (hb : Blk w g' t cs) (hne : g' ≠ g) : Blk w' g' t cs := (h.1.block g' hb.lt (fun e => hne (by injection e))).trans hb
theorem OnlyB.bel {W : World} (h : OnlyB g w w') (hb : Bel W w) (hg : W.heap.size ≤ g) : Bel W w' := Below.grown hb h.1 hb.size (fun k e => by injection e with e; omega)
theorem OnlyB.below {B : Nat} {W : World} (h : OnlyB g w w') (hb : Below B W w) (hs : B ≤ w.heap.size) (hg : B ≤ g) : Below B W w' := hb.grown h.1 hs (fun k e => by injection e with e; omega)
theorem OnlyB.owns {base size n c : Nat} {e : TypeId} {A : Option Addr} {xs : List Value} (h : OnlyB g w w') (ho : Owns w base e size A n c xs) (hg : g < base) : Owns w' base e size A n c xs :=
  ho.grown h.1 (fun k hk e => by injection e with e; have := (ho.block k hk).1; omega)
end
section
variable {P : Program} {ops : Array Oper} {rest : List Oper} {o : Oper} {a : Act} {w : World} {Q : Exit → Act → World → Prop}
/-- a struct is loaded out of a partS of a block -/
theorem wpList_load_part (hgd : o.guard = none) (ty : TypeId) (x : Operand) (ho : o.op = .load ty x) (g i : Nat) (hx : a.eval x = .pointer (some ⟨g, i, none⟩)) (t : TypeId) (cs : List Value) (hg : Blk w g t cs.toArray) (n : Nat) (d : TypeDesc) (hu : P.underlying ty = some d) (hi : (P.info? ty).map (·.size) = some n) (hn : i + n ≤ cs.length) (vs : Array Value) (hv : (partS cs i n).toArray = vs) (hd : aggT d = true)
    (h : wpList P ops Q rest (a.put o.dst (.agg vs)) w) : wpList P ops Q (o :: rest) a w := by
  subst hv
  refine wpList_plain hgd fun _ hK => ?_
  unfold Oper.wp execOp
  simp only [ho, hx, Instr.loadAt, Instr.sureAddr, Sem.run_bind, Sem.run_pure, Result.andThen_ok, run_loadVar_part hg i n hd hu hi hn]
  exact hK _ _ h
/-- a struct is stored into a partS of a block -/
theorem wpList_store_part (hgd : o.guard = none) (ty : TypeId) (x y : Operand) (ho : o.op = .store ty x y) (g i : Nat) (hx : a.eval x = .pointer (some ⟨g, i, none⟩)) (t : TypeId) (cs : List Value) (hg : Blk w g t cs.toArray) (vs : List Value) (hy : a.eval y = .agg vs.toArray) (hi : (P.info? ty).map (·.size) = some vs.length) (hn : i + vs.length ≤ cs.length) (h1 : vs.all (·.oneCell') = true) (cs' : List Value) (hc : overS cs i vs = cs')
    (h : ∀ W, Blk W g t cs'.toArray → OnlyB g w W → wpList P ops Q rest (a.put o.dst undef) W) : wpList P ops Q (o :: rest) a w := by
  subst hc
  refine wpList_plain hgd fun _ hK => ?_
  unfold Oper.wp execOp
  simp only [ho, hx, hy, Instr.storeAt, Instr.sureAddr, Sem.run_bind, Sem.run_pure, Result.andThen_ok, run_storeVar_part hg i vs hi hn h1]
  exact hK _ _ (h _ (setRow_heap w g _ _ t _ hg) (OnlyB.setRow w g _))
end
end Go.Proofs.YtahbecinkciahaaGreat
/- 'append(out, x)' of one element inside a region that draws its order; what such a region keeps of older memory. -/
namespace Go.Proofs.YtahbecinkciahaaGreat
open Go.RowKit
set_option linter.unusedVariables false
theorem RowsAt.grown {α : Type} {r : α → List Value} {w w' : World} {B size : Nat} {A : Option Addr} {l : List α} {row : Option Nat} (h : RowsAt w B size r A l) (hg : w.grownBy w' row) (hB : B ≤ w.heap.size) (hr : ∀ g, row = some g → B ≤ g) : RowsAt w' B size r A l :=
  h.keep fun p hp => (Below.refl B w).grown hg hB hr |>.cell hp
theorem RowsAt.drew {α : Type} {r : α → List Value} {w : World} {B size : Nat} {A : Option Addr} {l : List α} (h : RowsAt w B size r A l) : RowsAt w.drew B size r A l := h
end Go.Proofs.YtahbecinkciahaaGreat
/- Layer 30: lists of waiting packets in memory. -/
namespace Go.Proofs.YtahbecinkciahaaGreat
open Go.RowKit
set_option linter.unusedVariables false
set_option linter.unusedSimpArgs false
/-- a waiting packet in memory: where its payload lies -/
structure TW where
  w : Jb.Wt
  B : Option Addr
  c : Nat
def TW.row (a : TW) : List Value := [.int .i64 a.w.at_, .int .i64 a.w.m.sq, .int .i64 a.w.m.ti, .bool a.w.m.mrk, .int .u8 a.w.m.ty, .slice a.B a.w.m.pl.length a.c]
/-- a list of waiting packets lies at A, below n -/
def Wts (w : World) (n : Nat) (A : Option Addr) (l : List TW) : Prop := RowsAt w n 6 TW.row A l ∧ ∀ a ∈ l, IntsAt w n .u8 a.B a.w.m.pl
section
variable {w w' : World} {n : Nat} {A : Option Addr} {l : List TW}
theorem Wts.nil : Wts w n A [] := ⟨RowsAt.nil, fun _ h => by cases h⟩
theorem Wts.keep (h : Wts w n A l) (hk : ∀ p : Addr, p.block < n → w'.cell? p = w.cell? p) : Wts w' n A l := ⟨h.1.keep hk, fun a ha => (h.2 a ha).keep hk⟩
theorem Wts.more {m : Nat} (h : Wts w n A l) (hm : n ≤ m) : Wts w m A l := ⟨h.1.more hm, fun a ha => (h.2 a ha).more hm⟩
theorem Wts.later (h : Wts w w.heap.size A l) (hb : Below w.heap.size w w') : Wts w' w'.heap.size A l := (h.keep fun _ hp => hb.cell hp).more hb.size
theorem Wts.below {B : Nat} (h : Wts w B A l) (hb : Below B w w') : Wts w' B A l := h.keep fun _ hp => hb.cell hp
theorem Wts.push (h : Wts w w.heap.size A l) (o : Obj) : Wts (w.alloc o) (w.alloc o).heap.size A l := (h.keep fun p hp => World.cell?_alloc_lt w o p hp).more (by simp)
theorem Wts.drew (h : Wts w n A l) : Wts w.drew n A l := h
end
theorem rowsW {w : World} {n : Nat} {A : Option Addr} {l : List TW} (h : RowsAt w n 6 TW.row A l) {k : Nat} {a : TW} (ha : l[k]? = some a) : ∃ b off, A = some ⟨b, off, none⟩ ∧ b < n ∧
    w.cell? ⟨b, off + k * 6, none⟩ = some (.int .i64 a.w.at_) ∧ w.cell? ⟨b, off + k * 6 + 1, none⟩ = some (.int .i64 a.w.m.sq) ∧ w.cell? ⟨b, off + k * 6 + 2, none⟩ = some (.int .i64 a.w.m.ti) ∧ w.cell? ⟨b, off + k * 6 + 3, none⟩ = some (.bool a.w.m.mrk) ∧ w.cell? ⟨b, off + k * 6 + 4, none⟩ = some (.int .u8 a.w.m.ty) ∧ w.cell? ⟨b, off + k * 6 + 5, none⟩ = some (.slice a.B a.w.m.pl.length a.c) := by
  obtain ⟨b, off, rfl, hb, hc⟩ := h (by have := (List.getElem?_eq_some_iff.1 ha).1; omega)
  exact ⟨b, off, rfl, hb, hc k a ha 0 _ rfl, hc k a ha 1 _ rfl, hc k a ha 2 _ rfl, hc k a ha 3 _ rfl, hc k a ha 4 _ rfl, hc k a ha 5 _ rfl⟩
/-- the cells of a state -/
def JROW (s : Jb.Jt) (A : Option Addr) (c : Nat) : List Value := [.int .i64 s.least, .int .i64 s.most, .int .i64 s.now, .bool s.on, .int .i64 s.zero, .int .i64 s.first, .int .i64 s.high, .int .i64 s.done, .int .i64 s.spread, .int .i64 s.trans, .slice A s.q.length c, .int .i64 s.late, .int .i64 s.twice, .int .i64 s.played]
/-- the numbers of a state are int64 -/
def I64 (z : Int) : Prop := -9223372036854775808 ≤ z ∧ z ≤ 9223372036854775807
structure Fits (s : Jb.Jt) : Prop where
  least : I64 s.least
  most : I64 s.most
  now : I64 s.now
  zero : I64 s.zero
  first : I64 s.first
  high : I64 s.high
  done : I64 s.done
  spread : I64 s.spread
  trans : I64 s.trans
  late : I64 s.late
  twice : I64 s.twice
  played : I64 s.played
  q : ∀ w ∈ s.q, I64 w.at_ ∧ I64 w.m.sq ∧ I64 w.m.ti ∧ 0 ≤ w.m.ty ∧ w.m.ty ≤ 255 ∧ Within 0 255 w.m.pl
end Go.Proofs.YtahbecinkciahaaGreat
/- Layer 32: a port in memory. -/
namespace Go.Proofs.YtahbecinkciahaaGreat
open Go.RowKit
set_option linter.unusedVariables false
set_option linter.unusedSimpArgs false
/-- the cells of a jitter buffer's state -/
def JW (s : Jb.Jt) (A : Option Addr) (n c : Nat) : List Value := [.int .i64 s.least, .int .i64 s.most, .int .i64 s.now, .bool s.on, .int .i64 s.zero, .int .i64 s.first, .int .i64 s.high, .int .i64 s.done, .int .i64 s.spread, .int .i64 s.trans, .slice A n c, .int .i64 s.late, .int .i64 s.twice, .int .i64 s.played]
/-- the cells of a port -/
def PL (p : Sb.Pt) (A : Option Addr) (n c : Nat) : List Value :=
  [.int .u8 p.codec, .int .u32 p.src, .int .u16 p.seq, .int .u32 p.time, .bool p.mrk, .int .i64 p.below, .int .i64 p.cv, .int .i64 p.ci,
   .bool p.tn.on, .int .u8 p.tn.code, .int .u8 p.tn.vol, .int .u32 p.tn.start, .int .i64 p.tn.len, .int .i64 p.tn.ends,
   .int .i64 p.jt.least, .int .i64 p.jt.most, .int .i64 p.jt.now, .bool p.jt.on, .int .i64 p.jt.zero, .int .i64 p.jt.first, .int .i64 p.jt.high, .int .i64 p.jt.done, .int .i64 p.jt.spread, .int .i64 p.jt.trans, .slice A n c, .int .i64 p.jt.late, .int .i64 p.jt.twice, .int .i64 p.jt.played,
   .bool p.tk.on, .int .i64 p.tk.high, .int .i64 p.tk.jump, .int .i64 p.ht,
   .bool p.st.seen, .int .i64 p.st.base, .int .i64 p.st.high, .int .i64 p.st.got, .int .i64 p.st.wexp, .int .i64 p.st.wrec, .int .i64 p.st.trans, .int .i64 p.st.jit,
   .bool p.hd.on, .int .u32 p.hd.time, .int .u8 p.hd.code, .int .i64 p.hd.len, .bool p.hd.ended, .int .u32 p.seed, .int .u32 p.pk, .int .u32 p.oc]
def PA (p : Sb.Pt) (A : Option Addr) (n c : Nat) : Array Value := (PL p A n c).toArray
theorem info_port : (Tryz.prog.info? 48).map (·.size) = some 48 := by kernel_rfl
theorem info_jit : (Tryz.prog.info? 40).map (·.size) = some 14 := by kernel_rfl
theorem info_dst : (Tryz.prog.info? 24).map (·.size) = some 2 := by kernel_rfl
theorem info_trk : (Tryz.prog.info? 42).map (·.size) = some 3 := by kernel_rfl
theorem info_qui : (Tryz.prog.info? 33).map (·.size) = some 1 := by kernel_rfl
theorem info_sts : (Tryz.prog.info? 44).map (·.size) = some 8 := by kernel_rfl
/-- a port lies in block g -/
def PB (W : World) (g : Nat) (p : Sb.Pt) (A : Option Addr) (n c : Nat) : Prop := Blk W g 48 (PA p A n c)
section
variable {W : World} {g : Nat} {p : Sb.Pt} {A : Option Addr} {n c : Nat}
theorem PB.cell (h : PB W g p A n c) (i : Nat) (v : Value) (hv : (PL p A n c)[i]? = some v) : W.cell? ⟨g, i, none⟩ = some v := Blk.at h i v (by unfold PA; simpa using hv)
theorem PB.jt (h : PB W g p A n c) : W.cell? ⟨g, 14, none⟩ = some (.int .i64 p.jt.least) ∧ W.cell? ⟨g, 15, none⟩ = some (.int .i64 p.jt.most) ∧ W.cell? ⟨g, 16, none⟩ = some (.int .i64 p.jt.now) ∧ W.cell? ⟨g, 17, none⟩ = some (.bool p.jt.on) ∧ W.cell? ⟨g, 18, none⟩ = some (.int .i64 p.jt.zero) ∧ W.cell? ⟨g, 19, none⟩ = some (.int .i64 p.jt.first) ∧ W.cell? ⟨g, 20, none⟩ = some (.int .i64 p.jt.high) ∧ W.cell? ⟨g, 21, none⟩ = some (.int .i64 p.jt.done) ∧ W.cell? ⟨g, 22, none⟩ = some (.int .i64 p.jt.spread) ∧ W.cell? ⟨g, 23, none⟩ = some (.int .i64 p.jt.trans) ∧ W.cell? ⟨g, 24, none⟩ = some (.slice A n c) ∧ W.cell? ⟨g, 25, none⟩ = some (.int .i64 p.jt.late) ∧ W.cell? ⟨g, 26, none⟩ = some (.int .i64 p.jt.twice) ∧ W.cell? ⟨g, 27, none⟩ = some (.int .i64 p.jt.played) := ⟨h.cell 14 _ rfl, h.cell 15 _ rfl, h.cell 16 _ rfl, h.cell 17 _ rfl, h.cell 18 _ rfl, h.cell 19 _ rfl, h.cell 20 _ rfl, h.cell 21 _ rfl, h.cell 22 _ rfl, h.cell 23 _ rfl, h.cell 24 _ rfl, h.cell 25 _ rfl, h.cell 26 _ rfl, h.cell 27 _ rfl⟩
theorem PB.cd (h : PB W g p A n c) : W.cell? ⟨g, 6, none⟩ = some (.int .i64 p.cv) ∧ W.cell? ⟨g, 7, none⟩ = some (.int .i64 p.ci) := ⟨h.cell 6 _ rfl, h.cell 7 _ rfl⟩
theorem PB.tn (h : PB W g p A n c) : W.cell? ⟨g, 8, none⟩ = some (.bool p.tn.on) ∧ W.cell? ⟨g, 9, none⟩ = some (.int .u8 p.tn.code) ∧ W.cell? ⟨g, 10, none⟩ = some (.int .u8 p.tn.vol) ∧ W.cell? ⟨g, 11, none⟩ = some (.int .u32 p.tn.start) ∧ W.cell? ⟨g, 12, none⟩ = some (.int .i64 p.tn.len) ∧ W.cell? ⟨g, 13, none⟩ = some (.int .i64 p.tn.ends) := ⟨h.cell 8 _ rfl, h.cell 9 _ rfl, h.cell 10 _ rfl, h.cell 11 _ rfl, h.cell 12 _ rfl, h.cell 13 _ rfl⟩
theorem PB.tk (h : PB W g p A n c) : W.cell? ⟨g, 28, none⟩ = some (.bool p.tk.on) ∧ W.cell? ⟨g, 29, none⟩ = some (.int .i64 p.tk.high) ∧ W.cell? ⟨g, 30, none⟩ = some (.int .i64 p.tk.jump) := ⟨h.cell 28 _ rfl, h.cell 29 _ rfl, h.cell 30 _ rfl⟩
theorem PB.st (h : PB W g p A n c) : W.cell? ⟨g, 32, none⟩ = some (.bool p.st.seen) ∧ W.cell? ⟨g, 33, none⟩ = some (.int .i64 p.st.base) ∧ W.cell? ⟨g, 34, none⟩ = some (.int .i64 p.st.high) ∧ W.cell? ⟨g, 35, none⟩ = some (.int .i64 p.st.got) ∧ W.cell? ⟨g, 36, none⟩ = some (.int .i64 p.st.wexp) ∧ W.cell? ⟨g, 37, none⟩ = some (.int .i64 p.st.wrec) ∧ W.cell? ⟨g, 38, none⟩ = some (.int .i64 p.st.trans) ∧ W.cell? ⟨g, 39, none⟩ = some (.int .i64 p.st.jit) := ⟨h.cell 32 _ rfl, h.cell 33 _ rfl, h.cell 34 _ rfl, h.cell 35 _ rfl, h.cell 36 _ rfl, h.cell 37 _ rfl, h.cell 38 _ rfl, h.cell 39 _ rfl⟩
theorem PB.hd (h : PB W g p A n c) : W.cell? ⟨g, 40, none⟩ = some (.bool p.hd.on) ∧ W.cell? ⟨g, 41, none⟩ = some (.int .u32 p.hd.time) ∧ W.cell? ⟨g, 42, none⟩ = some (.int .u8 p.hd.code) ∧ W.cell? ⟨g, 43, none⟩ = some (.int .i64 p.hd.len) ∧ W.cell? ⟨g, 44, none⟩ = some (.bool p.hd.ended) := ⟨h.cell 40 _ rfl, h.cell 41 _ rfl, h.cell 42 _ rfl, h.cell 43 _ rfl, h.cell 44 _ rfl⟩
theorem PB.load (h : PB W g p A n c) : (loadVar 48 ⟨g, 0, none⟩).run Tryz.prog W = .ok (.agg (PA p A n c)) W := run_loadVar_row W g _ _ (PA p A n c) _ _ h Tryz.underlying48 rfl info_port
theorem PB.later {W' : World} (h : PB W g p A n c) (hb : Below W.heap.size W W') : PB W' g p A n c := Blk.later h hb
theorem PB.push (h : PB W g p A n c) (o : Obj) : PB (W.alloc o) g p A n c := Blk.push h o
theorem PB.new (w : World) (X : Array Value) (hX : X = PA p A n c) : PB (w.alloc (.cells X 48)) w.heap.size p A n c := by subst hX; exact Blk.new w _ _
end
end Go.Proofs.YtahbecinkciahaaGreat
/- Layer 30: the small functions. -/
namespace Go.Proofs.YtahbecinkciahaaGreat
open Go.RowKit
set_option linter.unusedVariables false
set_option linter.unusedSimpArgs false
attribute [local go_sem ↓] run_min_plain run_max_plain
attribute [local go_sem] setCell_drewN alloc_drewN
theorem i64_small (x : Int) (h0 : -9223372036854775808 ≤ x) (h1 : x ≤ 9223372036854775807) : IntKind.i64.wrap x = x := by
  by_cases h : 0 ≤ x
  · have e : x % 2 ^ 64 = x := Int.emod_eq_of_lt h (by omega)
    simp only [IntKind.wrap, IntKind.bits, IntKind.signed, e]
    rw [if_neg (by simp; omega)]
  · have e : x % 2 ^ 64 = x + 2 ^ 64 := by omega
    simp only [IntKind.wrap, IntKind.bits, IntKind.signed, e]
    rw [if_pos (by simp; omega)]
    omega
theorem ret_b {a b : Bool} (h : a = b) : Ending.returned (.bool a) = .returned (.bool b) := by rw [h]
set_option maxRecDepth 100000 in
set_option maxHeartbeats 12800000 in
theorem eighth_any (x : Int) (w : World) (x0 : -9223372036854775808 ≤ x) (x1 : x ≤ 9223372036854775807) : Calls Tryz.prog 150 #[.int .i64 x] w fun e w' => e = .returned (.int .i64 (x / 8)) ∧ w = w' := by
  go_enter Tryz.func150, Tryz.ntmps150
  go_wp2_with fail
  go_ret
  exact ⟨by rfl, rfl⟩
set_option maxRecDepth 100000 in
set_option maxHeartbeats 12800000 in
theorem cmpi_nan (x : Int) (w : World) : Calls Tryz.prog 163 #[.int .i64 x] w fun e w' => e = .returned (.bool false) ∧ w = w' := by
  go_enter Tryz.func163, Tryz.ntmps163
  go_wp2_with fail
  go_ret
  exact ⟨by simp, rfl⟩
set_option maxRecDepth 100000 in
set_option maxHeartbeats 12800000 in
theorem cmpi_any (x y : Int) (w : World) : Calls Tryz.prog 151 #[.int .i64 x, .int .i64 y] w fun e w' => e = .returned (.int .i64 (if x < y then -1 else if y < x then 1 else 0)) ∧ w = w' := by
  obtain ⟨R, hR⟩ : ∃ R : Int, R = if x < y then -1 else if y < x then 1 else 0 := ⟨_, rfl⟩
  rw [← hR]
  have hc : (x < y ∧ R = -1) ∨ (¬x < y ∧ y < x ∧ R = 1) ∨ (¬x < y ∧ ¬y < x ∧ R = 0) := by
    by_cases h1 : x < y
    · left; exact ⟨h1, by rw [hR, if_pos h1]⟩
    · by_cases h2 : y < x
      · right; left; exact ⟨h1, h2, by rw [hR, if_neg h1, if_pos h2]⟩
      · right; right; exact ⟨h1, h2, by rw [hR, if_neg h1, if_neg h2]⟩
  clear hR
  rcases hc with ⟨h1, rfl⟩ | ⟨h1, h2, rfl⟩ | ⟨h1, h2, rfl⟩
  all_goals
    go_enter Tryz.func151, Tryz.ntmps151
    go_wp2_with fail
    refine (cmpi_nan _ _).mono ?_
    rintro e w1 ⟨rfl, rfl⟩
    go_wp2_with fail
    refine (cmpi_nan _ _).mono ?_
    rintro e w1 ⟨rfl, rfl⟩
    go_wp2_with fail
    go_ret
    exact ⟨rfl, rfl⟩
set_option maxRecDepth 100000 in
set_option maxHeartbeats 12800000 in
theorem cmpl_nan (x : Int) (w : World) : Calls Tryz.prog 164 #[.int .i64 x] w fun e w' => e = .returned (.bool false) ∧ w = w' := by
  go_enter Tryz.func164, Tryz.ntmps164
  go_wp2_with fail
  go_ret
  exact ⟨by simp, rfl⟩
set_option maxRecDepth 100000 in
set_option maxHeartbeats 12800000 in
theorem cmpl_any (x y : Int) (w : World) : Calls Tryz.prog 152 #[.int .i64 x, .int .i64 y] w fun e w' => e = .returned (.int .i64 (if x < y then -1 else if y < x then 1 else 0)) ∧ w = w' := by
  obtain ⟨R, hR⟩ : ∃ R : Int, R = if x < y then -1 else if y < x then 1 else 0 := ⟨_, rfl⟩
  rw [← hR]
  have hc : (x < y ∧ R = -1) ∨ (¬x < y ∧ y < x ∧ R = 1) ∨ (¬x < y ∧ ¬y < x ∧ R = 0) := by
    by_cases h1 : x < y
    · left; exact ⟨h1, by rw [hR, if_pos h1]⟩
    · by_cases h2 : y < x
      · right; left; exact ⟨h1, h2, by rw [hR, if_neg h1, if_pos h2]⟩
      · right; right; exact ⟨h1, h2, by rw [hR, if_neg h1, if_neg h2]⟩
  clear hR
  rcases hc with ⟨h1, rfl⟩ | ⟨h1, h2, rfl⟩ | ⟨h1, h2, rfl⟩
  all_goals
    go_enter Tryz.func152, Tryz.ntmps152
    go_wp2_with fail
    refine (cmpl_nan _ _).mono ?_
    rintro e w1 ⟨rfl, rfl⟩
    go_wp2_with fail
    refine (cmpl_nan _ _).mono ?_
    rintro e w1 ⟨rfl, rfl⟩
    go_wp2_with fail
    go_ret
    exact ⟨rfl, rfl⟩
set_option maxRecDepth 100000 in
set_option maxHeartbeats 12800000 in
theorem config_any (l m : Int) (w : World) (v : Bool) (hv : v = decide (1 ≤ l ∧ l ≤ m ∧ m ≤ 1000)) : Calls Tryz.prog 123 #[.agg #[.int .i64 l, .int .i64 m]] w fun e w' => e = .returned (.bool v) ∧ Below w.heap.size w w' := by
  have hc : (l < 1 ∧ v = false) ∨ (1 ≤ l ∧ m < l ∧ v = false) ∨ (1 ≤ l ∧ l ≤ m ∧ 1000 < m ∧ v = false) ∨ (1 ≤ l ∧ l ≤ m ∧ m ≤ 1000 ∧ v = true) := by
    by_cases p0 : 1 ≤ l
    rotate_left
    · have q0 : l < 1 := by omega
      have hf : v = false := by rw [hv, decide_eq_false_iff_not]; intro hx; omega
      left; exact ⟨q0, hf⟩
    by_cases p1 : l ≤ m
    rotate_left
    · have q1 : m < l := by omega
      have hf : v = false := by rw [hv, decide_eq_false_iff_not]; intro hx; omega
      right; left; exact ⟨p0, q1, hf⟩
    by_cases p2 : m ≤ 1000
    rotate_left
    · have q2 : 1000 < m := by omega
      have hf : v = false := by rw [hv, decide_eq_false_iff_not]; intro hx; omega
      right; right; left; exact ⟨p0, p1, q2, hf⟩
    have ht : v = true := by rw [hv, decide_eq_true_iff]; omega
    right; right; right; exact ⟨p0, p1, p2, ht⟩
  clear hv
  rcases hc with ⟨h0, rfl⟩ | ⟨h0, h1, rfl⟩ | ⟨h0, h1, h2, rfl⟩ | ⟨h0, h1, h2, rfl⟩
  all_goals
    go_enter Tryz.func123, Tryz.ntmps123
    go_wp2_with fail
    go_ret
    exact ⟨by first | (simp; done) | (simp; omega), (Below.refl _ _).alloc (Nat.le_refl _) _⟩
set_option maxRecDepth 100000 in
set_option maxHeartbeats 12800000 in
theorem formed_any (sq ti : Int) (mk : Bool) (ty : Int) (A : Option Addr) (n c : Nat) (w : World) (v : Bool) (hv : v = decide ((0 ≤ sq ∧ sq ≤ 281474976710656) ∧ (-281474976710656 ≤ ti ∧ ti ≤ 281474976710656) ∧ n ≤ 1500)) : Calls Tryz.prog 146 #[.agg #[.int .i64 sq, .int .i64 ti, .bool mk, .int .u8 ty, .slice A n c]] w fun e w' => e = .returned (.bool v) ∧ Below w.heap.size w w' := by
  have hc : (sq < 0 ∧ v = false) ∨ (0 ≤ sq ∧ 281474976710656 < sq ∧ v = false) ∨ (0 ≤ sq ∧ sq ≤ 281474976710656 ∧ ti < -281474976710656 ∧ v = false) ∨ (0 ≤ sq ∧ sq ≤ 281474976710656 ∧ -281474976710656 ≤ ti ∧ 281474976710656 < ti ∧ v = false) ∨ (0 ≤ sq ∧ sq ≤ 281474976710656 ∧ -281474976710656 ≤ ti ∧ ti ≤ 281474976710656 ∧ 1500 < (n : Int) ∧ v = false) ∨ (0 ≤ sq ∧ sq ≤ 281474976710656 ∧ -281474976710656 ≤ ti ∧ ti ≤ 281474976710656 ∧ (n : Int) ≤ 1500 ∧ v = true) := by
    by_cases p0 : 0 ≤ sq
    rotate_left
    · have q0 : sq < 0 := by omega
      have hf : v = false := by rw [hv, decide_eq_false_iff_not]; intro hx; omega
      left; exact ⟨q0, hf⟩
    by_cases p1 : sq ≤ 281474976710656
    rotate_left
    · have q1 : 281474976710656 < sq := by omega
      have hf : v = false := by rw [hv, decide_eq_false_iff_not]; intro hx; omega
      right; left; exact ⟨p0, q1, hf⟩
    by_cases p2 : -281474976710656 ≤ ti
    rotate_left
    · have q2 : ti < -281474976710656 := by omega
      have hf : v = false := by rw [hv, decide_eq_false_iff_not]; intro hx; omega
      right; right; left; exact ⟨p0, p1, q2, hf⟩
    by_cases p3 : ti ≤ 281474976710656
    rotate_left
    · have q3 : 281474976710656 < ti := by omega
      have hf : v = false := by rw [hv, decide_eq_false_iff_not]; intro hx; omega
      right; right; right; left; exact ⟨p0, p1, p2, q3, hf⟩
    by_cases p4 : (n : Int) ≤ 1500
    rotate_left
    · have q4 : 1500 < (n : Int) := by omega
      have hf : v = false := by rw [hv, decide_eq_false_iff_not]; intro hx; omega
      right; right; right; right; left; exact ⟨p0, p1, p2, p3, q4, hf⟩
    have ht : v = true := by rw [hv, decide_eq_true_iff]; omega
    right; right; right; right; right; exact ⟨p0, p1, p2, p3, p4, ht⟩
  clear hv
  rcases hc with ⟨h0, rfl⟩ | ⟨h0, h1, rfl⟩ | ⟨h0, h1, h2, rfl⟩ | ⟨h0, h1, h2, h3, rfl⟩ | ⟨h0, h1, h2, h3, h4, rfl⟩ | ⟨h0, h1, h2, h3, h4, rfl⟩
  all_goals
    go_enter Tryz.func146, Tryz.ntmps146
    go_wp2_with fail
    go_ret
    exact ⟨by first | (simp; done) | (simp; omega), (Below.refl _ _).alloc (Nat.le_refl _) _⟩
set_option maxRecDepth 100000 in
set_option maxHeartbeats 12800000 in
theorem order_any (a0 s0 t0 y0 a1 s1 t1 y1 : Int) (m0 m1 : Bool) (A0 A1 : Option Addr) (n0 c0 n1 c1 : Nat) (w : World) : Calls Tryz.prog 109 #[.agg #[.int .i64 a0, .int .i64 s0, .int .i64 t0, .bool m0, .int .u8 y0, .slice A0 n0 c0], .agg #[.int .i64 a1, .int .i64 s1, .int .i64 t1, .bool m1, .int .u8 y1, .slice A1 n1 c1]] w fun e w' => e = .returned (.int .i64 (if a0 < a1 then -1 else if a1 < a0 then 1 else if s0 < s1 then -1 else if s1 < s0 then 1 else 0)) ∧ Below w.heap.size w w' := by
  obtain ⟨R, hR⟩ : ∃ R : Int, R = if a0 < a1 then -1 else if a1 < a0 then 1 else if s0 < s1 then -1 else if s1 < s0 then 1 else 0 := ⟨_, rfl⟩
  rw [← hR]
  have k1 := fun W => cmpi_any a0 a1 W
  have k2 := fun W => cmpl_any s0 s1 W
  obtain ⟨p, hp⟩ : ∃ p : Int, p = if a0 < a1 then -1 else if a1 < a0 then 1 else 0 := ⟨_, rfl⟩
  obtain ⟨q, hq⟩ : ∃ q : Int, q = if s0 < s1 then -1 else if s1 < s0 then 1 else 0 := ⟨_, rfl⟩
  rw [← hp] at k1
  rw [← hq] at k2
  have hc : (p ≠ 0 ∧ R = p) ∨ (p = 0 ∧ R = q) := by
    by_cases h1 : a0 < a1
    · left; rw [hp, hR, if_pos h1, if_pos h1]; exact ⟨by decide, rfl⟩
    · by_cases h2 : a1 < a0
      · left; rw [hp, hR, if_neg h1, if_pos h2, if_neg h1, if_pos h2]; exact ⟨by decide, rfl⟩
      · right; rw [hp, hR, hq, if_neg h1, if_neg h2, if_neg h1, if_neg h2]; exact ⟨rfl, rfl⟩
  have K1 := Lib.hid k1
  have K2 := Lib.hid k2
  clear k1 k2 hp hq hR
  rcases hc with ⟨h1, rfl⟩ | ⟨rfl, rfl⟩
  · have hb : (R != 0) = true := by simpa using h1
    clear h1
    go_enter Tryz.func109, Tryz.ntmps109
    go_wp2_with fail
    refine (K1.out _).mono ?_
    rintro e w1 ⟨rfl, rfl⟩
    go_wp2_with fail
    go_ret
    exact ⟨rfl, (((Below.refl _ _).alloc (Nat.le_refl _) _).alloc (by simp) _)⟩
  · go_enter Tryz.func109, Tryz.ntmps109
    go_wp2_with fail
    refine (K1.out _).mono ?_
    rintro e w1 ⟨rfl, rfl⟩
    go_wp2_with fail
    refine (K2.out _).mono ?_
    rintro e w1 ⟨rfl, rfl⟩
    go_wp2_with fail
    go_ret
    exact ⟨rfl, (((Below.refl _ _).alloc (Nat.le_refl _) _).alloc (by simp) _)⟩
end Go.Proofs.YtahbecinkciahaaGreat
/- Layer 30: the order of the reference; play times; equal packets. -/
namespace Go.Proofs.YtahbecinkciahaaGreat
open Go.RowKit
set_option linter.unusedVariables false
set_option linter.unusedSimpArgs false
attribute [local go_sem ↓] run_min_plain run_max_plain
attribute [local go_sem] setCell_drewN alloc_drewN
set_option maxRecDepth 100000 in
set_option maxHeartbeats 12800000 in
theorem playTime_any (le mo nw : Int) (on : Bool) (ze fi hi dn sp tr : Int) (QA : Option Addr) (qn qc : Nat) (la tw pd : Int) (t : Int) (w : World) (z0 : -1125899906842624 ≤ ze) (z1 : ze ≤ 1125899906842624) (f0 : -281474976710656 ≤ fi) (f1 : fi ≤ 281474976710656) (t0 : -281474976710656 ≤ t) (t1 : t ≤ 281474976710656) : Calls Tryz.prog 106 #[.agg #[.int .i64 le, .int .i64 mo, .int .i64 nw, .bool on, .int .i64 ze, .int .i64 fi, .int .i64 hi, .int .i64 dn, .int .i64 sp, .int .i64 tr, .slice QA qn qc, .int .i64 la, .int .i64 tw, .int .i64 pd], .int .i64 t] w fun e w' => e = .returned (.int .i64 (ze + (t - fi) / 8)) ∧ Below w.heap.size w w' := by
  obtain ⟨d, hd⟩ : ∃ d, d = t - fi := ⟨_, rfl⟩
  have e1 : t - fi = d := hd.symm
  have ew : IntKind.i64.wrap (t - fi) = d := by rw [i64_small _ (by omega) (by omega)]; exact e1
  have k1 := Lib.hid fun W => eighth_any d W (by omega) (by omega)
  rw [e1]
  obtain ⟨y, hy⟩ : ∃ y, y = d / 8 := ⟨_, rfl⟩
  have hyb : -140737488355328 ≤ y ∧ y ≤ 140737488355328 := by omega
  obtain ⟨y0, y1⟩ := hyb
  rw [← hy] at k1 ⊢
  have ez : IntKind.i64.wrap (ze + y) = ze + y := i64_small _ (by omega) (by omega)
  have U := Lib.hid ((Bel.refl w).push (.cells #[.int .i64 le, .int .i64 mo, .int .i64 nw, .bool on, .int .i64 ze, .int .i64 fi, .int .i64 hi, .int .i64 dn, .int .i64 sp, .int .i64 tr, .slice QA qn qc, .int .i64 la, .int .i64 tw, .int .i64 pd] 40))
  clear hd hy
  go_enter Tryz.func106, Tryz.ntmps106
  go_wp2_with fail
  go_quiet ((go_at_call 150; exact Calls.quiet_of_same ((k1.out _).mono fun _ _ h => ⟨h.1, h.2.symm⟩)))
  go_wp2_with fail
  go_ret
  exact ⟨by first | rfl | simp, U.out.drewN _⟩
end Go.Proofs.YtahbecinkciahaaGreat
/- 'append(out, x...)' where out is the call's own and x is a slice of integers, nil, empty or not; slices 's[k:]' of integers. -/
namespace Go.Proofs.YtahbecinkciahaaGreat
open Go.RowKit
set_option linter.unusedVariables false
section
variable {P : Program} {w : World}
theorem own_form {base size n : Nat} {e : TypeId} {v : Value} {xs : List Value} (h : w.ownsRow base e size v n xs) : ∃ A c, v = .slice A n c := by
  rcases h.2 with ⟨rfl, rfl⟩ | ⟨g, cap, _, hv, _⟩
  · exact ⟨none, 0, rfl⟩
  · exact ⟨_, cap, hv⟩
theorem append_nothing (base : Nat) (t ty e : TypeId) (i : TypeInfo) (size : Nat) (ht : P.underlying t = some (.slice e)) (hi : P.info? e = some i)
    (v : Value) (n : Nat) (xs : List Value) (hown : w.ownsRow base e size v n xs) (A : Option Addr) (c : Nat) (hA : A = none) : (Builtin.append_ #[t, t] ty #[v, .slice A 0 c]).run P w = .ok v w := by
  subst hA
  rcases hown.2 with ⟨rfl, rfl⟩ | ⟨g, cap, cur, rfl, _, _, hnc, _⟩
  · simp [Builtin.append_, run_underlying ht, sizeOf, typeInfo, hi, Builtin.lenOf, Builtin.firstCells]
  · simp [Builtin.append_, run_underlying ht, sizeOf, typeInfo, hi, Builtin.lenOf, Builtin.firstCells, hnc, storeCells]
/-- the run's equation -/
theorem run_append_ints (base : Nat) (t ty e : TypeId) (z : Value) (bytes : Nat) (ht : P.underlying t = some (.slice e)) (hinfo : (P.info? e).map (fun i => (i.zero, i.size, i.bytes)) = some (some z, 1, bytes)) (hzs : z.cells.size = 1)
    (v : Value) (n : Nat) (xs : List Value) (hown : w.ownsRow base e 1 v n xs)
    (B : Nat) (k : IntKind) (A : Option Addr) (c : Nat) (zs : List Int) (hr : IntsAt w B k A zs) (h63 : n + zs.length ≤ maxLen) (hbytes : (n + zs.length) * bytes ≤ 140737488355328) (hbase : base ≤ w.heap.size) :
    ∃ A' c' w', (Builtin.append_ #[t, t] ty #[v, .slice A zs.length c]).run P w = .ok (.slice A' (n + zs.length) c') w' ∧ Owns w' base e 1 A' (n + zs.length) c' (xs ++ zs.map (Value.int k)) ∧ w.grownBy w' v.ownBlock ∧
      (ownB A' = v.ownBlock ∨ ownB A' = some w.heap.size) := by
  obtain ⟨i, hi, hz0, hz1, hz2⟩ := info_parts hinfo
  have fin : ∀ v' w', (Builtin.append_ #[t, t] ty #[v, .slice A zs.length c]).run P w = .ok v' w' → w'.ownsRow base e 1 v' (n + zs.length) (xs ++ zs.map (Value.int k)) → w.grownBy w' v.ownBlock → (v'.ownBlock = v.ownBlock ∨ v'.ownBlock = some w.heap.size) →
      ∃ A' c' w', (Builtin.append_ #[t, t] ty #[v, .slice A zs.length c]).run P w = .ok (.slice A' (n + zs.length) c') w' ∧ Owns w' base e 1 A' (n + zs.length) c' (xs ++ zs.map (Value.int k)) ∧ w.grownBy w' v.ownBlock ∧ (ownB A' = v.ownBlock ∨ ownB A' = some w.heap.size) := by
    intro v' w' h1 h2 h3 h4
    obtain ⟨A', c', rfl⟩ := own_form h2
    rw [ownB_eq] at h4
    exact ⟨A', c', w', h1, h2, h3, h4⟩
  rcases A with _ | ad
  · have hz : zs = [] := by
      rcases Nat.eq_zero_or_pos zs.length with h0 | h0
      · exact List.eq_nil_of_length_eq_zero h0
      · obtain ⟨b, off, h, _⟩ := hr h0
        cases h
    subst hz
    exact fin v w (append_nothing base t ty e i 1 ht hi v n xs hown none c rfl) (by simpa using hown) (World.grownBy.refl w _) (.inl rfl)
  · have hcells : ∀ (j : Nat) (u : Value), (zs.map (Value.int k))[j]? = some u → w.cell? (ad.add j) = some u := by
      intro j u hu
      have hj : j < zs.length := by have := (List.getElem?_eq_some_iff.1 hu).1; simpa using this
      obtain ⟨b, off, h, _, hc⟩ := hr (by omega)
      injection h with h
      subst h
      have := hc j hj
      rw [List.getElem?_map, List.getElem?_eq_getElem hj] at hu
      injection hu with hu
      subst hu
      rw [List.getD_eq_getElem?_getD, List.getElem?_eq_getElem hj] at this
      by_cases h0 : j = 0
      · subst h0; exact this
      · simpa [Addr.add, h0] using this
    obtain ⟨v', w', hrun, h2, h3, _, h5⟩ := run_append_own_at (P := P) w base t ty e i z 1 bytes ht hi hz0 hz1 hz2 hzs (by omega) v n xs hown ad zs.length c (zs.map (Value.int k)) (by simp) hcells (by
      intro u hu
      obtain ⟨x, _, rfl⟩ := List.mem_map.1 hu
      rfl) h63 hbytes hbase
    exact fin v' w' hrun h2 h3 h5
/-- 'out = append(out, x...)' -/
theorem wpList_append_ints {ops : Array Oper} {rest : List Oper} {o : Oper} {a : Act} {Q : Exit → Act → World → Prop} (hgd : o.guard = none) (s x : Operand) (t : TypeId)
    (ho : o.op = .call { callee := .builtin .append, args := #[s, x], argTypes := #[t, t] })
    (base : Nat) (e : TypeId) (bytes : Nat) (z : Value) (ht : P.underlying t = some (.slice e)) (hinfo : (P.info? e).map (fun i => (i.zero, i.size, i.bytes)) = some (some z, 1, bytes)) (hzs : z.cells.size = 1)
    (A0 : Option Addr) (n c0 : Nat) (xs : List Value) (hs : a.eval s = .slice A0 n c0) (hown : Owns w base e 1 A0 n c0 xs)
    (B : Nat) (k : IntKind) (A : Option Addr) (c : Nat) (zs : List Int) (hx : a.eval x = .slice A zs.length c) (hr : IntsAt w B k A zs) (h63 : n + zs.length ≤ maxLen) (hbytes : (n + zs.length) * bytes ≤ 140737488355328) (hbase : base ≤ w.heap.size) (m : Nat) (hm : n + zs.length = m)
    (h : ∀ (A' : Option Addr) (c' : Nat) (w' : World), Owns w' base e 1 A' m c' (xs ++ zs.map (Value.int k)) → w.grownBy w' (ownB A0) → (ownB A' = ownB A0 ∨ ownB A' = some w.heap.size) → wpList P ops Q rest (a.put o.dst (.slice A' m c')) w') :
    wpList P ops Q (o :: rest) a w := by
  subst hm
  obtain ⟨A', c', w', hrun, h2, h3, h4⟩ := run_append_ints (P := P) base t o.type e z bytes ht hinfo hzs (.slice A0 n c0) n xs hown B k A c zs hr h63 hbytes hbase
  rw [ownB_eq] at h3 h4
  refine wpList_plain hgd fun K hK => ?_
  unfold Oper.wp execOp
  simp only [ho, resolve, invoke, builtin, Sem.run_bind, Sem.run_pure, Result.andThen_ok, List.map_toArray, List.map_cons, List.map_nil, hs, hx, hrun]
  exact hK _ _ (h A' c' w' h2 h3 h4)
end
end Go.Proofs.YtahbecinkciahaaGreat
/- A slice that is passed on and appended to by callees: what becomes of it and of the rest of memory. -/
namespace Go.Proofs.YtahbecinkciahaaGreat
open Go.RowKit
set_option linter.unusedVariables false
/-- from w0 (own slice at A0) to w (own slice at A): only the own block of w0 and new blocks have been written -/
def Grow (w0 : World) (A0 : Option Addr) (w : World) (A : Option Addr) : Prop :=
  w0.grownBy w (ownB A0) ∧ (ownB A = ownB A0 ∨ ∀ g, ownB A = some g → w0.heap.size ≤ g)
section
variable {w0 w w' : World} {A0 A A' : Option Addr}
theorem Grow.refl (w : World) (A : Option Addr) : Grow w A w A := ⟨World.grownBy.refl w _, .inl rfl⟩
theorem Grow.size (h : Grow w0 A0 w A) : w0.heap.size ≤ w.heap.size := h.1.size
/-- an append: the own block or a new one -/
theorem Grow.step (h : Grow w0 A0 w A) (hg : w.grownBy w' (ownB A)) (hat : ownB A' = ownB A ∨ ∀ g, ownB A' = some g → w.heap.size ≤ g) : Grow w0 A0 w' A' := by
  refine ⟨⟨hg.os.trans h.1.os, hg.tape.trans h.1.tape, hg.output.trans h.1.output, Nat.le_trans h.1.size hg.size, fun k hk hne => ?_⟩, ?_⟩
  · have h1 := h.1.block k hk hne
    have h2 : some k ≠ ownB A := by
      rcases h.2 with e | e
      · rw [e]; exact hne
      · intro e2
        have := e k e2.symm
        omega
    exact (hg.block k (Nat.lt_of_lt_of_le hk h.1.size) h2).trans h1
  · rcases hat with e | e
    · rw [e]; exact h.2
    · exact .inr fun g hg' => Nat.le_trans h.1.size (e g hg')
theorem Grow.alloc (h : Grow w0 A0 w A) (o : Obj) : Grow w0 A0 (w.alloc o) A := h.step (World.grownBy_alloc w o _) (.inl rfl)
theorem Grow.drew (h : Grow w0 A0 w A) : Grow w0 A0 w.drew A := ⟨⟨h.1.os, h.1.tape, h.1.output, h.1.size, h.1.block⟩, h.2⟩
/-- a call that makes new memory alone -/
theorem Grow.below (h : Grow w0 A0 w A) (hb : Below w.heap.size w w') : Grow w0 A0 w' A :=
  h.step ⟨hb.os, hb.tape, hb.output, hb.size, fun k hk _ => hb.block k hk⟩ (.inl rfl)
theorem Grow.trans {w1 : World} {A1 : Option Addr} (h : Grow w0 A0 w A) (h2 : Grow w A w1 A1) : Grow w0 A0 w1 A1 := h.step h2.1 h2.2
/-- what lies in another block stays -/
theorem Grow.blk {g : Nat} {t : TypeId} {cs : Array Value} (h : Grow w0 A0 w A) (hb : Blk w0 g t cs) (hne : some g ≠ ownB A0) : Blk w g t cs := hb.grown h.1 hne
theorem Grow.cell {a : Addr} {v : Value} (h : Grow w0 A0 w A) (hc : w0.cell? a = some v) (hne : some a.block ≠ ownB A0) : w.cell? a = some v := h.1.cell hc hne
theorem Grow.bel {a : World} {base size n c : Nat} {e : TypeId} {xs : List Value} (h : Grow w0 A0 w A) (ho : Owns w0 base e size A0 n c xs) (hb : Bel a w0) (hbase : a.heap.size ≤ base) : Bel a w :=
  below_own hb ho h.1 (Below.size hb) hbase
end
/-- 'out = append(out, x)', with where the new slice lies -/
theorem wpList_append_at {P : Program} {w0 : World} {ops : Array Oper} {rest : List Oper} {o : Oper} {a : Act} {Q : Exit → Act → World → Prop} (hgd : o.guard = none) (s x : Operand) (t : TypeId)
    (ho : o.op = .call { callee := .builtin .append, args := #[s, x], argTypes := #[t, t] })
    (base : Nat) (e : TypeId) (size bytes : Nat) (z : Value) (ht : P.underlying t = some (.slice e)) (hinfo : (P.info? e).map (fun i => (i.zero, i.size, i.bytes)) = some (some z, size, bytes))
    (hzs : z.cells.size = size) (hsz : 0 < size) (A : Option Addr) (n c : Nat) (xs : List Value) (hs : a.eval s = .slice A n c) (hown : Owns w0 base e size A n c xs)
    (cs : List Value) (hl : cs.length = size) (h1 : ∀ u ∈ cs, u.oneCell' = true) (hx : a.eval x = .slice (some ⟨w0.heap.size, 0, none⟩) 1 1)
    (h63 : n + 1 ≤ maxLen) (hbytes : (n + 1) * bytes ≤ 140737488355328) (hbase : base ≤ w0.heap.size)
    (h : ∀ (A' : Option Addr) (c' : Nat) (w' : World), Owns w' base e size A' (n + 1) c' (xs ++ cs) → w0.grownBy w' (ownB A) → (ownB A' = ownB A ∨ ∀ g, ownB A' = some g → w0.heap.size ≤ g) →
      wpList P ops Q rest (a.put o.dst (.slice A' (n + 1) c')) w') : wpList P ops Q (o :: rest) a (w0.alloc (.cells cs.toArray e)) := by
  obtain ⟨i, hi, hz0, hz1, hz2⟩ := info_parts hinfo
  refine wpList_append_lies (w0.alloc (.cells cs.toArray e)) hgd s x t ho base e i z size bytes ht hi hz0 hz1 hz2 hzs hsz _ n xs hs (hown.alloc _) ⟨w0.heap.size, 0, none⟩ 1 1 cs hx (by omega) ?_ h1 (by omega) h63 hbytes (by simp; omega) _ rfl ?_
  · intro j u hu
    have hc := Blk_cell w0 cs e j
    rw [← hu, ← hc]
    by_cases h0 : j = 0
    · subst h0; rfl
    · simp [Addr.add, h0]
  · intro g cap w' hown' hg hat hlt
    rw [ownB_eq] at hg hat
    have hsz' := hg.size
    refine h _ _ w' hown' ⟨hg.os, hg.tape, hg.output, Nat.le_trans (by simp) hsz', fun k hk hne => (hg.block k (by simp; omega) hne).trans (Below.heap_alloc w0 _ k hk)⟩ ?_
    rcases hat with e | e
    · exact .inl e.symm
    · refine .inr fun g' hg' => ?_
      injection hg' with hg'
      rw [← hg', e]; simp
/-- big-endian bytes -/
def be : Nat → Int → List Int
  | 0, _ => []
  | n + 1, x => be n (x / 256) ++ [x % 256]
end Go.Proofs.YtahbecinkciahaaGreat
/- Layer 30: copyMedia. -/
namespace Go.Proofs.YtahbecinkciahaaGreat
open Go.RowKit
set_option linter.unusedVariables false
set_option linter.unusedSimpArgs false
attribute [local go_sem ↓] run_min_plain run_max_plain
attribute [local go_sem] setCell_drewN alloc_drewN
theorem info_u8 : (Tryz.prog.info? 5).map (fun i => (i.zero, i.size, i.bytes)) = some (some (.int .u8 0), 1, 1) := by kernel_rfl
def u8s (l : List Int) : List Value := l.map (Value.int .u8)
theorem ints_blk {w : World} {g : Nat} {t : TypeId} {bs : List Int} (h : Blk w g t (u8s bs).toArray) : IntsAt w w.heap.size .u8 (some ⟨g, 0, none⟩) bs := fun h0 => by
  refine ⟨g, 0, rfl, h.lt, fun i hi => ?_⟩
  rw [Nat.zero_add, h.cell i]
  simp [u8s, List.getElem?_eq_getElem hi, List.getD_eq_getElem?_getD]
/-- what copyMedia leaves -/
def MediaR (sq ti : Int) (mk : Bool) (ty : Int) (pl : List Int) (w : World) (e : Ending) (w' : World) : Prop :=
  ∃ (A' : Option Addr) (c' : Nat), e = .returned (.agg #[.int .i64 sq, .int .i64 ti, .bool mk, .int .u8 ty, .slice A' pl.length c']) ∧ IntsNew w.heap.size w' .u8 A' pl ∧ Below w.heap.size w w'
set_option maxRecDepth 100000 in
set_option maxHeartbeats 12800000 in
theorem copyMedia_nil (sq ti : Int) (mk : Bool) (ty : Int) (A : Option Addr) (c : Nat) (w : World) : Calls Tryz.prog 107 #[.agg #[.int .i64 sq, .int .i64 ti, .bool mk, .int .u8 ty, .slice A 0 c]] w (MediaR sq ti mk ty [] w) := by
  go_enter Tryz.func107, Tryz.ntmps107
  go_wp2_with fail
  have U := Lib.hid (((Bel.refl w).push (.cells #[.int .i64 sq, .int .i64 ti, .bool mk, .int .u8 ty, .slice none 0 0] 103)).push (.cells #[.int .i64 sq, .int .i64 ti, .bool mk, .int .u8 ty, .slice none 0 0] 103))
  have B := Lib.hid (Blk.new1 w (.cells #[.int .i64 sq, .int .i64 ti, .bool mk, .int .u8 ty, .slice none 0 0] 103) 103 #[.int .i64 sq, .int .i64 ti, .bool mk, .int .u8 ty, .slice none 0 0])
  exact bodyPost_ret (v := .agg #[.int .i64 sq, .int .i64 ti, .bool mk, .int .u8 ty, .slice none 0 0]) (res_c Tryz.results107 rfl (run_loadVar_row (P := Tryz.prog) _ _ _ _ _ _ _ B.out Tryz.underlying103 rfl (by kernel_rfl))) rfl ⟨none, 0, rfl, IntsNew.nil, U.out⟩
set_option maxRecDepth 100000 in
set_option maxHeartbeats 12800000 in
theorem copyMedia_some (sq ti : Int) (mk : Bool) (ty : Int) (A : Option Addr) (pl : List Int) (c : Nat) (w : World) (hA : IntsAt w w.heap.size .u8 A pl) (hl : pl.length ≤ 1000000) (h0 : 0 < pl.length) : Calls Tryz.prog 107 #[.agg #[.int .i64 sq, .int .i64 ti, .bool mk, .int .u8 ty, .slice A pl.length c]] w (MediaR sq ti mk ty pl w) := by
  obtain ⟨b, off, rfl, hbB, hcell⟩ := hA h0
  obtain ⟨W0, hW0⟩ : ∃ W0, W0 = (w.alloc (.cells #[.int .i64 sq, .int .i64 ti, .bool mk, .int .u8 ty, .slice (some ⟨b, off, none⟩) pl.length c] 103)).alloc (.cells #[.int .i64 0, .int .i64 0, .bool false, .int .u8 0, .slice none 0 0] 103) := ⟨_, rfl⟩
  have hmk := run_make_row' (P := Tryz.prog) 22 5 (.int .u8 0) 1 Tryz.underlying22 info_u8 rfl .i64 .i64 pl.length (by omega) (by omega) W0
  obtain ⟨cur, hcur⟩ : ∃ cur : List Value, cur = (madeCells #[.int .u8 0] pl.length).toList := ⟨_, rfl⟩
  have hcl : cur.length = pl.length := by rw [hcur]; simp [madeCells]
  have hs0 : W0.heap.size = w.heap.size + 1 + 1 := by rw [hW0]; simp
  obtain ⟨W1, hW1⟩ : ∃ W1, W1 = W0.alloc (.cells (madeCells #[.int .u8 0] pl.length) 5) := ⟨_, rfl⟩
  have hB : Blk W1 (w.heap.size + 1 + 1) 5 cur.toArray := by rw [hW1, hcur, Array.toArray_toList, ← hs0]; exact Blk.new _ _ _
  have hU : Below W0.heap.size W0 W1 := by rw [hW1]; exact (Below.refl _ _).alloc (Nat.le_refl _) _
  have BX : Blk W0 w.heap.size 103 #[.int .i64 sq, .int .i64 ti, .bool mk, .int .u8 ty, .slice (some ⟨b, off, none⟩) pl.length c] := by rw [hW0]; exact (Blk.new w _ _).push _
  have BZ : Blk W0 (w.heap.size + 1) 103 #[.int .i64 0, .int .i64 0, .bool false, .int .u8 0, .slice none 0 0] := by rw [hW0]; exact Blk.new1 w _ _ _
  have UW : Bel w W0 := by rw [hW0]; exact ((Bel.refl w).push _).push _
  rw [← hW1, hs0] at hmk
  have hl1 : ¬pl.length = 0 := by omega
  have hl2 : ¬pl = [] := by intro h5; rw [h5] at hl1; exact hl1 rfl
  have hl3 : (0 : Int) < (pl.length : Int) := by omega
  have hsp : splice cur 0 (u8s pl) = u8s pl := by simp [splice, u8s, hcl]
  have UW1 : Bel w W1 := UW.later hU
  have HC : ∀ j v, (u8s pl)[j]? = some v → W1.cell? ((⟨b, off, none⟩ : Addr).add j) = some v := by
    intro j v hv
    have hj : j < pl.length := by
      have := (List.getElem?_eq_some_iff.1 hv).1
      simpa [u8s] using this
    have := (UW1.cell (p := ⟨b, off + j, none⟩) hbB).trans (hcell j hj)
    rw [show ((⟨b, off, none⟩ : Addr).add j) = ⟨b, off + j, none⟩ by simp [Addr.add], this]
    simp [u8s, List.getElem?_eq_getElem hj] at hv
    rw [← hv]; simp [List.getD_eq_getElem?_getD, List.getElem?_eq_getElem hj]
  have x4 := (BX.later hU).at 4 _ rfl
  have HCC := Lib.hid HC
  have HB := Lib.hid hB
  have HU := Lib.hid hU
  have HSP := Lib.hid hsp
  have HCL := Lib.hid hcl
  have HBX := Lib.hid BX
  have HBZ := Lib.hid BZ
  have HUW := Lib.hid UW
  have HS0 := Lib.hid hs0
  have hmk' := hmk
  rw [hW0] at hmk'
  clear HC hB hU hsp hcell hA hcl BX BZ UW UW1 hs0 hW1 hcur hmk
  go_enter Tryz.func107, Tryz.ntmps107
  go_wp2_with (refine wpList_copy_splice (o := ⟨some 15, _, _, _, _, _⟩) rfl (.tmp 12) (.tmp 14) 22 22 rfl 5 Tryz.underlying22 (by kernel_rfl) _ _ _ _ _ _ rfl rfl (w.heap.size + 1 + 1) 0 cur 5 HB.out (u8s pl) (by simp [u8s]) (fun _ => ⟨rfl, _, rfl, HCC.out⟩) (by rw [HCL.out]; simp [u8s]) (by intro v hv; simp [u8s] at hv; obtain ⟨z, _, rfl⟩ := hv; rfl) W0.heap.size W0 HU.out (by rw [HS0.out]; exact Nat.le_refl _) ?_
               intro w2 hB2 hU2
               have hz2 := (HBX.out.later hU2).frozen
               have x0 := (HBX.out.later hU2).at 0 _ rfl
               have x1 := (HBX.out.later hU2).at 1 _ rfl
               have x2 := (HBX.out.later hU2).at 2 _ rfl
               have x3 := (HBX.out.later hU2).at 3 _ rfl
               have x4' := (HBX.out.later hU2).at 4 _ rfl
               have zz := (HBZ.out.later hU2).frozen
               have y0 := (HBZ.out.later hU2).at 0 _ rfl
               have y1 := (HBZ.out.later hU2).at 1 _ rfl
               have y2 := (HBZ.out.later hU2).at 2 _ rfl
               have y3 := (HBZ.out.later hU2).at 3 _ rfl
               have y4 := (HBZ.out.later hU2).at 4 _ rfl)
  rw [HSP.out] at hB2
  have BF := Blk.setRow ((HBZ.out.later hU2).far (p := ⟨w.heap.size, 4, none⟩) (by simp) (.slice (some ⟨w.heap.size + 1 + 1, 0, none⟩) pl.length pl.length)) [.int .i64 sq, .int .i64 ti, .bool mk, .int .u8 ty, .slice (some ⟨w.heap.size + 1 + 1, 0, none⟩) pl.length pl.length] rfl
  have IN : IntsNew (w.heap.size + 1 + 1) w2 .u8 (some ⟨w.heap.size + 1 + 1, 0, none⟩) pl := ⟨ints_blk hB2.out, fun _ b' off' e => by cases e; exact Nat.le_refl _⟩
  have R3 := (IntsNew.setRow (g := w.heap.size + 1) (n := w.heap.size + 1 + 1) (by omega) [.int .i64 sq, .int .i64 ti, .bool mk, .int .u8 ty, .slice (some ⟨w.heap.size + 1 + 1, 0, none⟩) pl.length pl.length] _ 0 (IN.setCell (p := ⟨w.heap.size, 4, none⟩) (by simp; omega) (.slice (some ⟨w.heap.size + 1 + 1, 0, none⟩) pl.length pl.length))).less (m := w.heap.size) (by omega)
  have UF := below_setRow (g := w.heap.size + 1) (by omega) [.int .i64 sq, .int .i64 ti, .bool mk, .int .u8 ty, .slice (some ⟨w.heap.size + 1 + 1, 0, none⟩) pl.length pl.length] _ 0 (below_set_old (p := ⟨w.heap.size, 4, none⟩) (HUW.out.later hU2) (Nat.le_refl _) (.slice (some ⟨w.heap.size + 1 + 1, 0, none⟩) pl.length pl.length))
  simp only [setRow, Nat.zero_add, Nat.reduceAdd] at BF R3 UF
  exact bodyPost_ret (v := .agg #[.int .i64 sq, .int .i64 ti, .bool mk, .int .u8 ty, .slice (some ⟨w.heap.size + 1 + 1, 0, none⟩) pl.length pl.length]) (res_c Tryz.results107 rfl (run_loadVar_row (P := Tryz.prog) _ _ _ _ _ _ _ BF Tryz.underlying103 rfl (by kernel_rfl))) rfl ⟨_, _, rfl, R3, UF⟩
theorem copyMedia_any (sq ti : Int) (mk : Bool) (ty : Int) (A : Option Addr) (pl : List Int) (n c : Nat) (w : World) (B : Nat) (hB : B ≤ w.heap.size) (hA : IntsAt w B .u8 A pl) (hl : n ≤ 1000000) (hn : pl.length = n) : Calls Tryz.prog 107 #[.agg #[.int .i64 sq, .int .i64 ti, .bool mk, .int .u8 ty, .slice A n c]] w (MediaR sq ti mk ty pl w) := by
  subst hn
  by_cases h0 : pl.length = 0
  · obtain rfl := List.eq_nil_of_length_eq_zero h0
    exact copyMedia_nil sq ti mk ty A c w
  · exact copyMedia_some sq ti mk ty A pl c w (hA.more hB) hl (by omega)
end Go.Proofs.YtahbecinkciahaaGreat
/- Layer 30: slices.IndexFunc with the closure of run. -/
namespace Go.Proofs.YtahbecinkciahaaGreat
open Go.RowKit
set_option linter.unusedVariables false
set_option linter.unusedSimpArgs false
attribute [local go_sem ↓] run_min_plain run_max_plain
attribute [local go_sem] setCell_drewN alloc_drewN
set_option maxRecDepth 100000 in
set_option maxHeartbeats 12800000 in
theorem run1_any (a0 s0 t0 y0 : Int) (m0 : Bool) (A0 : Option Addr) (n0 c0 : Nat) (g : Nat) (now : Int) (w : World) (hg : w.cell? ⟨g, 0, none⟩ = some (.int .i64 now)) (hlt : g < w.heap.size) : Calls Tryz.prog 148 #[.agg #[.int .i64 a0, .int .i64 s0, .int .i64 t0, .bool m0, .int .u8 y0, .slice A0 n0 c0], .pointer (some ⟨g, 0, none⟩)] w fun e w' => e = .returned (.bool (decide (now < a0))) ∧ Below w.heap.size w w' := by
  have hne : ¬g = w.heap.size := by omega
  go_enter Tryz.func148, Tryz.ntmps148
  go_wp2_with fail
  go_ret
  exact ⟨by first | rfl | simp, (Below.refl _ _).alloc (Nat.le_refl _) _⟩
/-- the first packet that is not due yet -/
def firstLate (now : Int) (q : List Jb.Wt) : Int := if (Jb.due now q).length = q.length then -1 else ((Jb.due now q).length : Int)
theorem due_full (now : Int) : ∀ q : List Jb.Wt, (∀ x ∈ q, x.at_ ≤ now) → Jb.due now q = q
  | [], _ => rfl
  | a :: q, h => by
    unfold Jb.due
    rw [List.takeWhile_cons, if_pos (by simpa using h a List.mem_cons_self)]
    have := due_full now q (fun x hx => h x (List.mem_cons_of_mem _ hx))
    unfold Jb.due at this
    rw [this]
theorem due_at (now : Int) : ∀ (q : List Jb.Wt) (k : Nat) (a : Jb.Wt), q[k]? = some a → (∀ x ∈ q.take k, x.at_ ≤ now) → now < a.at_ → (Jb.due now q).length = k ∧ k < q.length
  | [], k, a, h, _, _ => by simp at h
  | b :: q, 0, a, h, _, h2 => by
    simp at h
    subst h
    unfold Jb.due
    rw [List.takeWhile_cons, if_neg (by simpa using h2)]
    simp
  | b :: q, k + 1, a, h, h1, h2 => by
    have hb := h1 b (by simp)
    obtain ⟨e1, e2⟩ := due_at now q k a (by simpa using h) (fun x hx => h1 x (by simp; exact Or.inr hx)) h2
    unfold Jb.due at e1 ⊢
    rw [List.takeWhile_cons, if_pos (by simpa using hb)]
    simp [e1]
    omega
set_option maxRecDepth 100000 in
set_option maxHeartbeats 12800000 in
theorem index_any (A : Option Addr) (l : List TW) (n c : Nat) (g : Nat) (now : Int) (w : World) (hn : l.length = n) (hl : n ≤ 1000000) (hA : Wts w w.heap.size A l) (hg : w.cell? ⟨g, 0, none⟩ = some (.int .i64 now)) (hlt : g < w.heap.size) : Calls Tryz.prog 147 #[.slice A n c, .func (Fn.func 148) #[] #[.pointer (some ⟨g, 0, none⟩)]] w fun e w' => e = .returned (.int .i64 (firstLate now (l.map TW.w))) ∧ Below w.heap.size w w' := by
  subst hn
  have HA := Lib.hid hA
  have HG := Lib.hid hg
  obtain ⟨R, hR⟩ : ∃ R, R = firstLate now (l.map TW.w) := ⟨_, rfl⟩
  rw [← hR]
  have HR := Lib.hid hR
  clear hA hg hR
  go_enter Tryz.func147, Tryz.ntmps147
  go_wp2_with fail
  go_loopg [8] l.length (fun gk i wr => ∃ k : Nat, gk + k = l.length ∧ i = .int .i64 k ∧ Hid (∀ x ∈ (l.map TW.w).take k, x.at_ ≤ now) ∧ Hid (Bel w wr))
  case atStart => exact ⟨0, rfl, rfl, Lib.hid (fun x hx => by simp at hx), Lib.hid (Bel.refl w)⟩
  case round =>
    obtain ⟨k, hgk, rfl, HT, U⟩ := hrel
    have hi0 : (0 : Int) ≤ (k : Int) := by omega
    by_cases hk : k < l.length
    rotate_left
    · obtain rfl : k = l.length := by omega
      have hi1 : (l.length : Int) ≤ (l.length : Int) := Int.le_refl _
      have hall := HT.out
      rw [List.take_of_length_le (by simp)] at hall
      have hv : R = -1 := by rw [HR.out]; unfold firstLate; rw [due_full now _ hall, if_pos rfl]
      subst hv
      go_wp2_with fail
      go_ret
      exact ⟨rfl, U.out⟩
    have hi1 : (k : Int) < (l.length : Int) := by omega
    obtain ⟨a, ha⟩ : ∃ a, l[k]? = some a := ⟨_, List.getElem?_eq_getElem hk⟩
    obtain ⟨b, off, rfl, hbB, e0, e1, e2, e3, e4, e5⟩ := rowsW (HA.out.1.keep (fun p hp => U.out.cell hp)) ha
    have hcg := (U.out.cell (p := ⟨g, 0, none⟩) hlt).trans HG.out
    have hgl : g < wr.heap.size := Nat.lt_of_lt_of_le hlt U.out.size
    have k1 := run1_any a.w.at_ a.w.m.sq a.w.m.ti a.w.m.ty a.w.m.mrk a.B a.w.m.pl.length a.c g now wr hcg hgl
    have hm : (l.map TW.w)[k]? = some a.w := by rw [List.getElem?_map, ha]; rfl
    have HM := Lib.hid hm
    have K1 := Lib.hid k1
    clear ha hm k1
    by_cases hd : now < a.w.at_
    · have hb : decide (now < a.w.at_) = true := by simpa using hd
      obtain ⟨d1, d2⟩ := due_at now _ k a.w HM.out HT.out hd
      have hv : R = (k : Int) := by rw [HR.out]; unfold firstLate; rw [d1, if_neg (by omega)]
      subst hv
      rw [hb] at K1
      clear hd hb d1 d2
      go_wp2_with fail
      refine (K1.out).mono ?_
      rintro e w1 ⟨rfl, hb1⟩
      go_wp2_with fail
      go_ret
      exact ⟨rfl, U.out.later hb1⟩
    · have hb : decide (now < a.w.at_) = false := by simpa using hd
      rw [hb] at K1
      have HD := Lib.hid hd
      clear hd hb
      go_wp2_with fail
      refine (K1.out).mono ?_
      rintro e w1 ⟨rfl, hb1⟩
      have U1 := Lib.hid (U.out.later hb1)
      clear hb1
      go_wp2_with fail
      go_roundg (gk - 1)
      case measure => omega
      case rel =>
        refine ⟨k + 1, by omega, by go_num, Lib.hid (fun x hx => ?_), U1⟩
        rw [List.take_add_one, HM.out] at hx
        rcases List.mem_append.1 hx with hx | hx
        · exact HT.out x hx
        · simp at hx
          subst hx
          have := HD.out
          omega
end Go.Proofs.YtahbecinkciahaaGreat
/- Layer 30: slices.ContainsFunc with the closure of Put. -/
namespace Go.Proofs.YtahbecinkciahaaGreat
open Go.RowKit
set_option linter.unusedVariables false
set_option linter.unusedSimpArgs false
attribute [local go_sem ↓] run_min_plain run_max_plain
attribute [local go_sem] setCell_drewN alloc_drewN
set_option maxRecDepth 100000 in
set_option maxHeartbeats 12800000 in
theorem put1_any (a0 s0 t0 y0 : Int) (m0 : Bool) (A0 : Option Addr) (n0 c0 : Nat) (g : Nat) (sq : Int) (w : World) (hg : w.cell? ⟨g, 0, none⟩ = some (.int .i64 sq)) (hlt : g < w.heap.size) : Calls Tryz.prog 103 #[.agg #[.int .i64 a0, .int .i64 s0, .int .i64 t0, .bool m0, .int .u8 y0, .slice A0 n0 c0], .pointer (some ⟨g, 0, none⟩)] w fun e w' => e = .returned (.bool (s0 == sq)) ∧ Below w.heap.size w w' := by
  have hne : ¬g = w.heap.size := by omega
  go_enter Tryz.func103, Tryz.ntmps103
  go_wp2_with fail
  go_ret
  exact ⟨by first | rfl | simp, (Below.refl _ _).alloc (Nat.le_refl _) _⟩
def AtLeast (b : Bool) (w : World) (e : Ending) (w' : World) : Prop := ∃ r : Int, e = .returned (.int .i64 r) ∧ decide (0 ≤ r) = b ∧ Below w.heap.size w w'
set_option maxRecDepth 100000 in
set_option maxHeartbeats 12800000 in
theorem index2_any (A : Option Addr) (l : List TW) (n c : Nat) (g : Nat) (sq : Int) (w : World) (hn : l.length = n) (hl : n ≤ 1000000) (hA : Wts w w.heap.size A l) (hg : w.cell? ⟨g, 0, none⟩ = some (.int .i64 sq)) (hlt : g < w.heap.size) : Calls Tryz.prog 147 #[.slice A n c, .func (Fn.func 103) #[] #[.pointer (some ⟨g, 0, none⟩)]] w (AtLeast ((l.map TW.w).any fun x => x.m.sq == sq) w) := by
  subst hn
  have HA := Lib.hid hA
  have HG := Lib.hid hg
  obtain ⟨R, hR⟩ : ∃ R, R = (l.map TW.w).any fun x => x.m.sq == sq := ⟨_, rfl⟩
  rw [← hR]
  have HR := Lib.hid hR
  clear hA hg hR
  go_enter Tryz.func147, Tryz.ntmps147
  go_wp2_with fail
  go_loopg [8] l.length (fun gk i wr => ∃ k : Nat, gk + k = l.length ∧ i = .int .i64 k ∧ Hid (R = ((l.map TW.w).drop k).any fun x => x.m.sq == sq) ∧ Hid (Bel w wr))
  case atStart => exact ⟨0, rfl, rfl, Lib.hid (by rw [List.drop_zero]; exact HR.out), Lib.hid (Bel.refl w)⟩
  case round =>
    clear HR
    obtain ⟨k, hgk, rfl, HT, U⟩ := hrel
    have hi0 : (0 : Int) ≤ (k : Int) := by omega
    by_cases hk : k < l.length
    rotate_left
    · obtain rfl : k = l.length := by omega
      have hi1 : (l.length : Int) ≤ (l.length : Int) := Int.le_refl _
      have hv : R = false := by rw [HT.out, List.drop_eq_nil_of_le (by simp)]; rfl
      subst hv
      go_wp2_with fail
      go_ret
      exact ⟨-1, rfl, rfl, U.out⟩
    have hi1 : (k : Int) < (l.length : Int) := by omega
    obtain ⟨a, ha⟩ : ∃ a, l[k]? = some a := ⟨_, List.getElem?_eq_getElem hk⟩
    obtain ⟨b, off, rfl, hbB, e0, e1, e2, e3, e4, e5⟩ := rowsW (HA.out.1.keep (fun p hp => U.out.cell hp)) ha
    have hcg := (U.out.cell (p := ⟨g, 0, none⟩) hlt).trans HG.out
    have hgl : g < wr.heap.size := Nat.lt_of_lt_of_le hlt U.out.size
    have k1 := put1_any a.w.at_ a.w.m.sq a.w.m.ti a.w.m.ty a.w.m.mrk a.B a.w.m.pl.length a.c g sq wr hcg hgl
    have hd : (l.map TW.w).drop k = a.w :: (l.map TW.w).drop (k + 1) := by
      have hm : (l.map TW.w)[k]? = some a.w := by rw [List.getElem?_map, ha]; rfl
      obtain ⟨h1, h2⟩ := List.getElem?_eq_some_iff.1 hm
      rw [List.drop_eq_getElem_cons h1, h2]
    have HD := Lib.hid hd
    have K1 := Lib.hid k1
    clear ha hd k1
    cases hb : (a.w.m.sq == sq)
    · rw [hb] at K1
      have HN : Hid (R = ((l.map TW.w).drop (k + 1)).any fun x => x.m.sq == sq) := Lib.hid (by rw [HT.out, HD.out, List.any_cons, hb, Bool.false_or])
      clear hb HT HD
      go_wp2_with fail
      refine (K1.out).mono ?_
      rintro e w1 ⟨rfl, hb1⟩
      have U1 := Lib.hid (U.out.later hb1)
      clear hb1
      go_wp2_with fail
      go_roundg (gk - 1)
      case measure => omega
      case rel => exact ⟨k + 1, by omega, by go_num, HN, U1⟩
    · rw [hb] at K1
      have hv : R = true := by rw [HT.out, HD.out, List.any_cons, hb, Bool.true_or]
      subst hv
      clear hb HT HD
      go_wp2_with fail
      refine (K1.out).mono ?_
      rintro e w1 ⟨rfl, hb1⟩
      go_wp2_with fail
      go_ret
      exact ⟨(k : Int), rfl, by simp, U.out.later hb1⟩
set_option maxRecDepth 100000 in
set_option maxHeartbeats 12800000 in
theorem contains_any (A : Option Addr) (l : List TW) (n c : Nat) (g : Nat) (sq : Int) (w : World) (hn : l.length = n) (hl : n ≤ 1000000) (hA : Wts w w.heap.size A l) (hg : w.cell? ⟨g, 0, none⟩ = some (.int .i64 sq)) (hlt : g < w.heap.size) : Calls Tryz.prog 104 #[.slice A n c, .func (Fn.func 103) #[] #[.pointer (some ⟨g, 0, none⟩)]] w fun e w' => e = .returned (.bool ((l.map TW.w).any fun x => x.m.sq == sq)) ∧ Below w.heap.size w w' := by
  have k1 := Lib.hid (index2_any A l n c g sq w hn hl hA hg hlt)
  generalize ((l.map TW.w).any fun x => x.m.sq == sq) = R at *
  clear hA hg
  go_enter Tryz.func104, Tryz.ntmps104
  go_wp2_with fail
  refine k1.out.mono ?_
  rintro e w1 ⟨r, rfl, hr, hb⟩
  go_wp2_with fail
  go_ret
  first | exact ⟨rfl, hb⟩ | exact ⟨ret_b hr, hb⟩
end Go.Proofs.YtahbecinkciahaaGreat
/- Layer 30: copyQueue. -/
namespace Go.Proofs.YtahbecinkciahaaGreat
open Go.RowKit
set_option linter.unusedVariables false
set_option linter.unusedSimpArgs false
attribute [local go_sem ↓] run_min_plain run_max_plain
attribute [local go_sem] setCell_drewN alloc_drewN
theorem info_w : (Tryz.prog.info? 105).map (fun i => (i.zero, i.size, i.bytes)) = some (some (.agg #[.int .i64 0, .int .i64 0, .int .i64 0, .bool false, .int .u8 0, .slice none 0 0]), 6, 56) := by kernel_rfl
/-- a queue that the call has made: its row lies from base on, its payloads elsewhere -/
structure QOwn (w : World) (base : Nat) (A : Option Addr) (n c : Nat) (l : List TW) : Prop where
  len : l.length = n
  own : Owns w base 105 6 A n c (l.flatMap TW.row)
  pay : ∀ a ∈ l, IntsAt w w.heap.size .u8 a.B a.w.m.pl
  far : ∀ a ∈ l, 0 < a.w.m.pl.length → ∀ b off, a.B = some ⟨b, off, none⟩ → some b ≠ ownB A
  new : ∀ a ∈ l, 0 < a.w.m.pl.length → ∀ b off, a.B = some ⟨b, off, none⟩ → base ≤ b
theorem QOwn.nil {w : World} {base : Nat} : QOwn w base none 0 0 [] := ⟨rfl, Owns.nil, (fun _ h => by cases h), (fun _ h => by cases h), (fun _ h => by cases h)⟩
theorem QOwn.below {w w' : World} {base n c : Nat} {A : Option Addr} {l : List TW} (h : QOwn w base A n c l) (hb : Below w.heap.size w w') : QOwn w' base A n c l :=
  ⟨h.len, h.own.below hb, fun a ha => (h.pay a ha).later hb, h.far, h.new⟩
theorem QOwn.step {wr v1 v2 wn : World} {base k c cn : Nat} {A An : Option Addr} {l : List TW} {a : TW} (h : QOwn wr base A k c l) (hbs : base ≤ wr.heap.size) (hb : Below wr.heap.size wr v1) (hb2 : Below v1.heap.size v1 v2) (hg : v2.grownBy wn (ownB A))
    (hown : Owns wn base 105 6 An (k + 1) cn (l.flatMap TW.row ++ a.row)) (hat : ownB An = ownB A ∨ ∀ g, ownB An = some g → v2.heap.size ≤ g) (hI : IntsNew wr.heap.size v1 .u8 a.B a.w.m.pl) : QOwn wn base An (k + 1) cn (l ++ [a]) := by
  have s1 := hb.size
  have s2 := hb2.size
  have s3 := hg.size
  have hA : ∀ g, ownB A = some g → g < wr.heap.size := fun g hg' => (h.own.block g hg').2
  have key : ∀ (x : TW), IntsAt v2 v2.heap.size .u8 x.B x.w.m.pl → (0 < x.w.m.pl.length → ∀ b off, x.B = some ⟨b, off, none⟩ → some b ≠ ownB A) → IntsAt wn wn.heap.size .u8 x.B x.w.m.pl := by
    intro x hx hf h0
    obtain ⟨b, off, e, hlt, hc⟩ := hx h0
    exact ⟨b, off, e, by omega, fun i hi => hg.cell (hc i hi) (hf h0 b off e)⟩
  have farN : ∀ b off, 0 < a.w.m.pl.length → a.B = some ⟨b, off, none⟩ → wr.heap.size ≤ b ∧ b < v1.heap.size := by
    intro b off h0 e
    refine ⟨hI.2 h0 b off e, ?_⟩
    obtain ⟨b', off', e', hlt, _⟩ := hI.1 h0
    rw [e] at e'
    injection e' with e'
    injection e' with e1 _
    omega
  have farO : ∀ x ∈ l, ∀ b off, 0 < x.w.m.pl.length → x.B = some ⟨b, off, none⟩ → b < wr.heap.size := by
    intro x hx b off h0 e
    obtain ⟨b', off', e', hlt, _⟩ := h.pay x hx h0
    rw [e] at e'
    injection e' with e'
    injection e' with e1 _
    omega
  refine ⟨by simp [h.len], by rw [List.flatMap_append]; simpa using hown, fun x hx => ?_, fun x hx h0 b off e => ?_, fun x hx h0 b off e => ?_⟩
  · rcases List.mem_append.1 hx with hx | hx
    · exact key x (((h.pay x hx).later hb).later hb2) (h.far x hx)
    · obtain rfl := List.mem_singleton.1 hx
      refine key x (hI.1.later hb2) (fun h0 b off e he => ?_)
      have := farN b off h0 e
      have := hA b he.symm
      omega
  · rcases List.mem_append.1 hx with hx | hx
    · rcases hat with e2 | e2
      · rw [e2]; exact h.far x hx h0 b off e
      · intro he
        have := farO x hx b off h0 e
        have := e2 b he.symm
        omega
    · obtain rfl := List.mem_singleton.1 hx
      have := farN b off h0 e
      rcases hat with e2 | e2
      · rw [e2]
        intro he
        have := hA b he.symm
        omega
      · intro he
        have := e2 b he.symm
        omega
  · rcases List.mem_append.1 hx with hx | hx
    · exact h.new x hx h0 b off e
    · obtain rfl := List.mem_singleton.1 hx
      have := farN b off h0 e
      omega
theorem QOwn.wts {w : World} {base n c : Nat} {A : Option Addr} {l : List TW} (h : QOwn w base A n c l) : Wts w w.heap.size A l := by
  refine ⟨?_, h.pay⟩
  exact Owns.rows h.own h.len (fun a => rfl)
/-- one element, whose cells lie in block g0; where the new slice lies -/
theorem step_append_two {P : Program} {ops : Array Oper} {o : Oper} {a : Act} {w : World} {K : Act → World → Prop} {Q : Exit → Act → World → Prop} {E : Prop} (d : Tmp) (hgd : o.guard = none) (hd : o.dst = some d) (s x : Operand) (t : TypeId)
    (ho : o.op = .call { callee := .builtin .append, args := #[s, x], argTypes := #[t, t] })
    (base : Nat) (e : TypeId) (size bytes : Nat) (z : Value) (ht : P.underlying t = some (.slice e)) (hinfo : (P.info? e).map (fun i => (i.zero, i.size, i.bytes)) = some (some z, size, bytes))
    (hzs : z.cells.size = size) (hsz : 0 < size) (A : Option Addr) (n c : Nat) (xs : List Value) (hs : a.eval s = .slice A n c) (hown : Owns w base e size A n c xs)
    (g0 : Nat) (cs : List Value) (hl : cs.length = size) (h1 : ∀ u ∈ cs, u.oneCell' = true) (hx : a.eval x = .slice (some ⟨g0, 0, none⟩) 1 1) (hb : Blk w g0 e cs.toArray)
    (h63 : n + 1 ≤ maxLen) (hbytes : (n + 1) * bytes ≤ 140737488355328) (hbase : base ≤ w.heap.size)
    (h : ∀ (A' : Option Addr) (c' : Nat) (w' : World), Owns w' base e size A' (n + 1) c' (xs ++ cs) → w.grownBy w' (ownB A) → (ownB A' = ownB A ∨ ∀ g, ownB A' = some g → w.heap.size ≤ g) → K (a.put (some d) (.slice A' (n + 1) c')) w') :
    if Region.wanted o (yielded ops a.tmps) = true then Oper.wp P o a w K Q else E := by
  obtain ⟨i, hi, hz0, hz1, hz2⟩ := info_parts hinfo
  refine step_append_lies w hgd s x t ho base e i z size bytes ht hi hz0 hz1 hz2 hzs hsz _ n xs hs hown ⟨g0, 0, none⟩ 1 1 cs hx (by omega) ?_ h1 (by omega) h63 hbytes hbase _ rfl ?_
  · intro j u hu
    exact World.news_of_block hb j u (by simpa using hu)
  · intro g cap w' hown' hg hat hlt
    rw [ownB_eq] at hg hat
    rw [hd]
    refine h _ _ w' hown' hg ?_
    rcases hat with e | e
    · exact .inl e.symm
    · refine .inr fun g' hg' => ?_
      injection hg' with hg'
      rw [← hg', e]; exact Nat.le_refl _
/-- what copyQueue leaves -/
def QueueR (l : List TW) (w : World) (e : Ending) (w' : World) : Prop :=
  ∃ (A' : Option Addr) (c' : Nat) (l' : List TW), e = .returned (.slice A' l.length c') ∧ l'.map TW.w = l.map TW.w ∧ QOwn w' w.heap.size A' l.length c' l' ∧ Below w.heap.size w w'
set_option maxRecDepth 100000 in
set_option maxHeartbeats 12800000 in
theorem copyQueue_any (A : Option Addr) (l : List TW) (n c : Nat) (w : World) (hn : l.length = n) (hl : n ≤ 100000) (hA : Wts w w.heap.size A l) (hp : ∀ a ∈ l, a.w.m.pl.length ≤ 1000000) : Calls Tryz.prog 149 #[.slice A n c] w (QueueR l w) := by
  subst hn
  have HA := Lib.hid hA
  have HP := Lib.hid hp
  clear hA hp
  go_enter Tryz.func149, Tryz.ntmps149
  go_wp2_with fail
  go_loopg [3, 8] l.length (fun gk s3 i wr => ∃ (k : Nat) (A' : Option Addr) (c' : Nat) (l' : List TW), gk + k = l.length ∧ s3 = .slice A' k c' ∧ i = .int .i64 k ∧ Hid (l'.map TW.w = (l.map TW.w).take k) ∧ Hid (QOwn wr w.heap.size A' k c' l') ∧ Hid (Bel w wr))
  case atStart => exact ⟨0, none, 0, [], rfl, rfl, rfl, Lib.hid rfl, Lib.hid QOwn.nil, Lib.hid (Bel.refl w)⟩
  case round =>
    obtain ⟨k, A', c', l', hgk, rfl, rfl, HL, HO, U⟩ := hrel
    have hi0 : (0 : Int) ≤ (k : Int) := by omega
    by_cases hk : k < l.length
    rotate_left
    · obtain rfl : k = l.length := by omega
      have hi1 : (l.length : Int) ≤ (l.length : Int) := Int.le_refl _
      go_wp2_with fail
      go_ret
      exact ⟨A', c', l', rfl, by rw [HL.out, List.take_of_length_le (by simp)], HO.out, U.out⟩
    have hi1 : (k : Int) < (l.length : Int) := by omega
    obtain ⟨a, ha⟩ : ∃ a, l[k]? = some a := ⟨_, List.getElem?_eq_getElem hk⟩
    obtain ⟨b, off, rfl, hbB, e0, e1, e2, e3, e4, e5⟩ := rowsW (HA.out.1.keep (fun p hp => U.out.cell hp)) ha
    have hpa := HP.out a (List.mem_of_getElem? ha)
    have hia := (HA.out.2 a (List.mem_of_getElem? ha)).keep (w' := wr) (fun p hp => U.out.cell hp)
    have hm : (l.map TW.w)[k]? = some a.w := by rw [List.getElem?_map, ha]; rfl
    have HM := Lib.hid hm
    obtain ⟨⟨at0, ⟨sq0, ti0, mk0, ty0, pl0⟩⟩, B0, c0⟩ := a
    simp only at e0 e1 e2 e3 e4 e5 hpa hia HM
    have BX := Lib.hid ((Blk.new wr 105 #[.int .i64 at0, .int .i64 sq0, .int .i64 ti0, .bool mk0, .int .u8 ty0, .slice B0 pl0.length c0]).drew)
    have UX := Lib.hid (((Bel.refl wr).push (.cells #[.int .i64 at0, .int .i64 sq0, .int .i64 ti0, .bool mk0, .int .u8 ty0, .slice B0 pl0.length c0] 105)).drewN 1)
    have hbs := U.out.size
    have IA := Lib.hid hia
    clear ha hm hia
    go_wp2_with fail
    go_region_law (first
      | (refine step_append_two 20 (by rfl) (by rfl) _ _ 38 (by rfl) w.heap.size 105 6 56 _ Tryz.underlying38 info_w rfl (by decide) A' k c' _ (by rfl) (Owns.alloc HO2 _) v1.heap.size [.int .i64 at0, .int .i64 sq0, .int .i64 ti0, .bool mk0, .int .u8 ty0, .slice A9 pl0.length c9] rfl (by simp [Value.oneCell']) (by rfl) (Blk.new v1 _ _) (by unfold maxLen; omega) (by omega) (by simp; omega) ?_; intro An cn wn hown hgr hat)
      | (go_simp; go_at_call 107; refine (copyMedia_any sq0 ti0 mk0 ty0 B0 pl0 pl0.length c0 _ w.heap.size (by simp; omega) ((IA.out.alloc hbs _).drew) hpa rfl).mono ?_; rintro e v1 ⟨A9, c9, rfl, hI9, hb9⟩; have HO2 := ((HO.out.own.alloc _).drew).below hb9; have b0 := (BX.out.later hb9).at 0 _ rfl; have hs9 := hb9.size; have hs9' : w.heap.size ≤ v1.heap.size := by simp at hs9; omega))
    all_goals
      go_wp2_with fail
      go_roundg (gk - 1)
      case measure => omega
      case rel =>
        have UV : Below wr.heap.size wr v1 := UX.out.later hb9
        have hI8 := hI9.less (m := wr.heap.size) (by simp)
        have hb2 := (Below.refl v1.heap.size v1).alloc (Nat.le_refl _) (.cells #[.int .i64 at0, .int .i64 sq0, .int .i64 ti0, .bool mk0, .int .u8 ty0, .slice A9 pl0.length c9] 105)
        refine ⟨k + 1, An, cn, l' ++ [⟨⟨at0, ⟨sq0, ti0, mk0, ty0, pl0⟩⟩, A9, c9⟩], by omega, rfl, by go_num, Lib.hid ?_, Lib.hid ?_, Lib.hid ?_⟩
        · rw [List.map_append, HL.out, List.take_add_one, HM.out]; rfl
        · exact HO.out.step hbs UV hb2 hgr (by simpa [TW.row] using hown) hat hI8
        · exact (((U.out.later UV).later hb2).grown hgr (Nat.le_trans hs9' hb2.size) fun g e => (HO.out.own.block g e).1)
end Go.Proofs.YtahbecinkciahaaGreat
/- Layer 32: what is written and what is not; a port with its queue in memory. -/
namespace Go.Proofs.YtahbecinkciahaaGreat
open Go.RowKit
set_option linter.unusedVariables false
set_option linter.unusedSimpArgs false
/-- of the old blocks only those of S have been written -/
structure Chg (S : List Nat) (w w' : World) : Prop where
  os : w'.os = w.os
  tape : w'.tape = w.tape
  output : w'.output = w.output
  size : w.heap.size ≤ w'.heap.size
  block : ∀ k, k < w.heap.size → k ∉ S → w'.heap[k]? = w.heap[k]?
section
variable {S T : List Nat} {w w' w'' : World} {g : Nat}
theorem Chg.refl (S : List Nat) (w : World) : Chg S w w := ⟨rfl, rfl, rfl, Nat.le_refl _, fun _ _ _ => rfl⟩
theorem Chg.trans (h : Chg S w w') (h2 : Chg S w' w'') : Chg S w w'' := ⟨h2.os.trans h.os, h2.tape.trans h.tape, h2.output.trans h.output, Nat.le_trans h.size h2.size, fun k hk hn => (h2.block k (Nat.lt_of_lt_of_le hk h.size) hn).trans (h.block k hk hn)⟩
theorem Chg.of_below (hb : Below w.heap.size w w') : Chg S w w' := ⟨hb.os, hb.tape, hb.output, hb.size, fun k hk _ => hb.block k hk⟩
theorem Chg.of_only (h : OnlyB g w w') (hg : g ∈ S) : Chg S w w' := ⟨h.1.os, h.1.tape, h.1.output, h.1.size, fun k hk hn => h.1.block k hk (fun e => hn (by injection e with e; rw [e]; exact hg))⟩
theorem Chg.of_grown {row : Option Nat} (h : w.grownBy w' row) (hr : ∀ k, row = some k → k ∈ S ∨ w.heap.size ≤ k) : Chg S w w' := ⟨h.os, h.tape, h.output, h.size, fun k hk hn => h.block k hk (fun e => by rcases hr k e.symm with h1 | h1; exact hn h1; omega)⟩
theorem Chg.more (h : Chg S w w') (hs : ∀ k ∈ S, k ∈ T) : Chg T w w' := ⟨h.os, h.tape, h.output, h.size, fun k hk hn => h.block k hk (fun e => hn (hs k e))⟩
/-- what is new may be written too -/
theorem Chg.less (h : Chg (g :: S) w w') (hg : w.heap.size ≤ g) : Chg S w w' := ⟨h.os, h.tape, h.output, h.size, fun k hk hn => h.block k hk (fun e => by rcases List.mem_cons.1 e with e | e; omega; exact hn e)⟩
theorem Chg.alloc (S : List Nat) (w : World) (o : Obj) : Chg S w (w.alloc o) := Chg.of_below ((Below.refl _ _).alloc (Nat.le_refl _) _)
theorem Chg.push (h : Chg S w w') (o : Obj) : Chg S w (w'.alloc o) := h.trans (Chg.alloc S w' o)
theorem Chg.drew (h : Chg S w w') : Chg S w w'.drew := ⟨h.os, h.tape, h.output, h.size, h.block⟩
theorem Chg.drewN (h : Chg S w w') (n : Nat) : Chg S w (w'.drewN n) := ⟨h.os, h.tape, h.output, h.size, h.block⟩
theorem Chg.below (h : Chg [] w w') : Below w.heap.size w w' := ⟨h.os, h.tape, h.output, h.size, fun k hk => h.block k hk (by simp)⟩
theorem Chg.bel {W : World} (h : Chg S w w') (hb : Bel W w) (hs : ∀ k ∈ S, W.heap.size ≤ k) : Bel W w' :=
  ⟨h.os.trans hb.os, h.tape.trans hb.tape, h.output.trans hb.output, Nat.le_trans hb.size h.size, fun k hk => (h.block k (Nat.lt_of_lt_of_le hk hb.size) (fun e => by have := hs k e; omega)).trans (hb.block k hk)⟩
theorem Chg.blk {t : TypeId} {cs : Array Value} (h : Chg S w w') (hb : Blk w g t cs) (hg : g ∉ S) : Blk w' g t cs := (h.block g hb.lt hg).trans hb
theorem Chg.cell (h : Chg S w w') {p : Addr} (hlt : p.block < w.heap.size) (hp : p.block ∉ S) : w'.cell? p = w.cell? p := by unfold World.cell?; rw [h.block p.block hlt hp]
theorem Chg.ints {k : IntKind} {A : Option Addr} {zs : List Int} (h : Chg S w w') (hi : IntsAt w w.heap.size k A zs) (hn : 0 < zs.length → ∀ b off, A = some ⟨b, off, none⟩ → b ∉ S) : IntsAt w' w'.heap.size k A zs := fun h0 => by
  obtain ⟨b, off, e, hlt, hc⟩ := hi h0
  exact ⟨b, off, e, Nat.lt_of_lt_of_le hlt h.size, fun i hi' => (h.cell (p := ⟨b, off + i, none⟩) hlt (hn h0 b off e)).trans (hc i hi')⟩
theorem Chg.owns {base size n c : Nat} {e : TypeId} {A : Option Addr} {xs : List Value} (h : Chg S w w') (ho : Owns w base e size A n c xs) (hn : ∀ k, ownB A = some k → k ∉ S) : Owns w' base e size A n c xs :=
  ho.of_block (fun k hk => h.block k (ho.block k hk).2 (hn k hk))
end
/-- integers whose block is not one of S -/
def IntsAv (W : World) (S : List Nat) (k : IntKind) (A : Option Addr) (zs : List Int) : Prop := IntsAt W W.heap.size k A zs ∧ (0 < zs.length → ∀ b off, A = some ⟨b, off, none⟩ → b ∉ S)
section
variable {S T : List Nat} {W W' : World} {k : IntKind} {A : Option Addr} {zs : List Int}
theorem IntsAv.nil : IntsAv W S k A [] := ⟨IntsAt.nil, fun h => absurd h (by simp)⟩
theorem IntsAv.chg (h : IntsAv W S k A zs) (hc : Chg T W W') (hs : ∀ x ∈ T, x ∈ S) : IntsAv W' S k A zs := ⟨hc.ints h.1 (fun h0 b off e hb => h.2 h0 b off e (hs b hb)), h.2⟩
theorem IntsAv.add (h : IntsAv W S k A zs) {g : Nat} (hg : W.heap.size ≤ g) : IntsAv W (g :: S) k A zs := ⟨h.1, fun h0 b off e hb => by
  rcases List.mem_cons.1 hb with e2 | hb
  · obtain ⟨b', off', e', hlt, _⟩ := h.1 h0
    rw [e] at e'; injection e' with e'; injection e' with e1 _; omega
  · exact h.2 h0 b off e hb⟩
theorem IntsAv.of_new {n : Nat} (h : IntsNew n W k A zs) (hs : ∀ x ∈ S, x < n) : IntsAv W S k A zs := ⟨h.1, fun h0 b off e hb => by have := h.2 h0 b off e; have := hs b hb; omega⟩
end
/-- a cell that holds no such integer is stored into -/
theorem IntsAt.set_ne {w : World} {B : Nat} {k : IntKind} {A : Option Addr} {zs : List Int} (h : IntsAt w B k A zs) {p : Addr} {v0 : Value} (hc : w.cell? p = some v0) (hk : ∀ z, v0 ≠ .int k z) (u : Value) : IntsAt (w.setCell p u) B k A zs := fun h0 => by
  obtain ⟨b, off, e, hlt, hcell⟩ := h h0
  refine ⟨b, off, e, hlt, fun i hi => ?_⟩
  rw [World.cell?_setCell_other w p ⟨b, off + i, none⟩ u (fun e2 => ?_)]
  · exact hcell i hi
  · have := hcell i hi
    first
      | (rw [e2, hc] at this; injection this with this; exact hk _ this)
      | (rw [← e2, hc] at this; injection this with this; exact hk _ this)
/-- a list of waiting packets; none of its blocks is one of S -/
structure QAv (W : World) (S : List Nat) (A : Option Addr) (l : List TW) : Prop where
  wts : Wts W W.heap.size A l
  row : 0 < l.length → ∀ b off, A = some ⟨b, off, none⟩ → b ∉ S
  pay : ∀ a ∈ l, 0 < a.w.m.pl.length → ∀ b off, a.B = some ⟨b, off, none⟩ → b ∉ S
section
variable {S T : List Nat} {W W' : World} {A : Option Addr} {l : List TW}
theorem QAv.nil : QAv W S A [] := ⟨⟨RowsAt.nil, fun _ h => by cases h⟩, fun h => absurd h (by simp), fun _ h => by cases h⟩
theorem QAv.chg (h : QAv W S A l) (hc : Chg T W W') (hs : ∀ x ∈ T, x ∈ S) : QAv W' S A l := by
  refine ⟨⟨fun h0 => ?_, fun a ha => hc.ints (h.wts.2 a ha) (fun h0 b off e hb => h.pay a ha h0 b off e (hs b hb))⟩, h.row, h.pay⟩
  obtain ⟨b, off, e, hlt, hcell⟩ := h.wts.1 h0
  exact ⟨b, off, e, Nat.lt_of_lt_of_le hlt hc.size, fun i a ha j v hv => (hc.cell (p := ⟨b, off + i * 6 + j, none⟩) hlt (fun hb => h.row h0 b off e (hs b hb))).trans (hcell i a ha j v hv)⟩
theorem QAv.later (h : QAv W S A l) (hb : Below W.heap.size W W') : QAv W' S A l := h.chg (T := []) (Chg.of_below hb) (by simp)
theorem QAv.add (h : QAv W S A l) {g : Nat} (hg : W.heap.size ≤ g) : QAv W (g :: S) A l := by
  refine ⟨h.wts, fun h0 b off e hb => ?_, fun a ha h0 b off e hb => ?_⟩
  · rcases List.mem_cons.1 hb with e2 | hb
    · obtain ⟨b', off', e', hlt, _⟩ := h.wts.1 h0
      rw [e] at e'; injection e' with e'; injection e' with e1 _; omega
    · exact h.row h0 b off e hb
  · rcases List.mem_cons.1 hb with e2 | hb
    · obtain ⟨b', off', e', hlt, _⟩ := h.wts.2 a ha h0
      rw [e] at e'; injection e' with e'; injection e' with e1 _; omega
    · exact h.pay a ha h0 b off e hb
theorem QAv.of_own {base n c : Nat} (h : QOwn W base A n c l) (hs : ∀ x ∈ S, x < base) : QAv W S A l := by
  refine ⟨h.wts, fun h0 b off e hb => ?_, fun a ha h0 b off e hb => ?_⟩
  · have h1 := (h.own.block b (by rw [e]; rfl)).1
    have := hs b hb
    omega
  · have h1 := h.new a ha h0 b off e
    have := hs b hb
    omega
end
/-- a port in block g, with its queue -/
structure PM (W : World) (S : List Nat) (g : Nat) (p : Sb.Pt) (A : Option Addr) (n c : Nat) (l : List TW) : Prop where
  box : PB W g p A n c
  q : l.map TW.w = p.jt.q
  len : l.length = n
  cap : n ≤ c
  cm : c ≤ maxLen
  qa : QAv W S A l
section
variable {S T : List Nat} {W W' : World} {g n c : Nat} {p p' : Sb.Pt} {A : Option Addr} {l : List TW}
theorem PM.later (h : PM W S g p A n c l) (hb : Below W.heap.size W W') : PM W' S g p A n c l := ⟨h.box.later hb, h.q, h.len, h.cap, h.cm, h.qa.later hb⟩
theorem PM.push (h : PM W S g p A n c l) (o : Obj) : PM (W.alloc o) S g p A n c l := h.later ((Below.refl _ _).alloc (Nat.le_refl _) _)
theorem PM.chg (h : PM W S g p A n c l) (hc : Chg T W W') (hs : ∀ x ∈ T, x ∈ S) (hg : g ∉ T) : PM W' S g p A n c l := ⟨hc.blk h.box hg, h.q, h.len, h.cap, h.cm, h.qa.chg hc hs⟩
theorem PM.add (h : PM W S g p A n c l) {x : Nat} (hx : W.heap.size ≤ x) : PM W (x :: S) g p A n c l := ⟨h.box, h.q, h.len, h.cap, h.cm, h.qa.add hx⟩
/-- a field of one cell is stored -/
theorem PM.set (h : PM W S g p A n c l) (hg : g ∈ S) (i : Nat) (v : Value) (p' : Sb.Pt) (hp : (PL p A n c).set i v = PL p' A n c) (hj : p'.jt.q = p.jt.q) : PM (W.setCell ⟨g, i, none⟩ v) S g p' A n c l := by
  refine ⟨?_, h.q.trans hj.symm, h.len, h.cap, h.cm, h.qa.chg (Chg.of_only (OnlyB.setCell W g i v) (S := S) hg) (fun _ h => h)⟩
  have := Blk.set_ h.box i v
  unfold PB PA
  rw [← hp]
  unfold PA at this
  simpa using this
/-- a part is stored -/
theorem PM.over (h : PM W S g p A n c l) (hg : g ∈ S) (ho : OnlyB g W W') (p' : Sb.Pt) (hb : PB W' g p' A n c) (hj : p'.jt.q = p.jt.q) : PM W' S g p' A n c l :=
  ⟨hb, h.q.trans hj.symm, h.len, h.cap, h.cm, h.qa.chg (Chg.of_only ho (S := S) hg) (fun _ h => h)⟩
end
end Go.Proofs.YtahbecinkciahaaGreat
