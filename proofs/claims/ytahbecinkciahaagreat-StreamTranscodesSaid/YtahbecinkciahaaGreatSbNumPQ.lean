/- Layer 32, StreamNumbers in plain words: what a speaker with a companding law sends, frame by frame; no program in sight. -/
import Derived.Test.YtahbecinkciahaaGreatJtPlainQ
import Derived.Test.YtahbecinkciahaaGreatCmpLawsQ
import Derived.Deep.QuietTactic
import Derived.BigQuiet
import Derived.RegionTactic
import Derived.Deep.RegionHeld3
import Derived.Maps.OwnOps
import Derived.Maps.Views
namespace Go.Proofs.YtahbecinkciahaaGreat.Sb
open Go.RowKit
set_option linter.unusedVariables false
/-- a speaker behind i frames, of which the last row ones were quiet; many packets are sent -/
structure NumI (sr : Int) (p : Pt) (i row many : Nat) : Prop where
  codec : p.codec = 8
  src : p.src = sr
  seq : p.seq = (many : Int)
  time : p.time = 160 * (i : Int)
  below : p.below = min (row : Int) 10
  cv : p.cv = 0
  ci : p.ci = 0
  tn : p.tn = Ev.Snd.zero
  jt : p.jt = (Jb.new 40 200).1
  tk : p.tk = Pk.Tr.zero
  ht : p.ht = 0
  pk : p.pk = (many : Int)
  oc : 0 ≤ p.oc ∧ p.oc ≤ 4294967295
  seed : p.seed = sr
  le : many ≤ i
  i60 : i ≤ 60
def rowN (row : Nat) (zs : List Int) : Nat := if Ev.lev zs < 60 then 0 else row + 1
theorem jb40 : Jb.valid (Jb.new 40 200).1 = true ∧ (Jb.new 40 200).1.q = [] ∧ (Jb.new 40 200).2 = 0 := by decide +kernel
theorem tn0 : Ev.Snd.zero.valid = true := by decide
theorem NumI.valid {src : Int} {p : Pt} {i row many : Nat} (h : NumI src p i row many) : p.valid = true := by
  unfold Pt.valid
  have hn : p.near := by unfold Pt.near; rw [h.tk, h.ht]; decide
  rw [h.codec, h.cv, h.ci, h.jt, h.tn, jb40.1, tn0, decide_eq_true hn]
  decide
theorem NumI.wf {src : Int} {p : Pt} {i row many : Nat} (h : NumI src p i row many) (hs : 0 ≤ src ∧ src ≤ 4294967295) : p.wf := by
  have h1 := h.le
  have h2 := h.i60
  constructor
  · rw [h.codec]; omega
  · rw [h.src]; exact hs
  · rw [h.seq]; omega
  · rw [h.time]; omega
  · rw [h.below]; omega
  · rw [h.tn]; decide
  · rw [h.tn]; decide
  · rw [h.tn]; decide
  · rw [h.seed]; exact hs
  · rw [h.pk]; omega
  · exact h.oc
theorem NumI.start {src : Int} (hs : 0 ≤ src ∧ src ≤ 4294967295) : NumI src (new 8 src 40 200).1 0 0 0 ∧ (new 8 src 40 200).2 = 0 := by
  have e : new 8 src 40 200 = ({ Pt.zero with codec := 8, src := src, mrk := true, jt := (Jb.new 40 200).1, seed := src }, 0) := by
    unfold new
    rw [if_neg (by decide), if_pos (by decide)]
  rw [e]
  exact ⟨⟨rfl, rfl, rfl, rfl, rfl, rfl, rfl, rfl, rfl, rfl, rfl, rfl, (show (0 : Int) ≤ 0 ∧ (0 : Int) ≤ 4294967295 by decide), rfl, Nat.le_refl _, by omega⟩, rfl⟩
theorem NumI.step {src : Int} {p : Pt} {i row many : Nat} (h : NumI src p i row many) (zs : List Int) (hi : i < 60) (hl : zs.length = 160) :
    ∃ more : Nat, (send0 p zs).2.length = more ∧ more ≤ 1 ∧ (more = 0 ↔ 10 < rowN row zs) ∧ NumI src (send0 p zs).1 (i + 1) (rowN row zs) (many + more) ∧
      ∀ k ∈ (send0 p zs).2, k.sq = (many : Int) ∧ k.ti = 160 * (i : Int) ∧ k.src = src ∧ ((k.ty = 13) ↔ rowN row zs = 10) := by
  have h1 := h.le
  have hq : Ev.quiet p.below zs = min (rowN row zs : Int) 10 := by
    unfold Ev.quiet rowN
    rw [h.below]
    split <;> omega
  have ht : ¬(p.tn.on = true ∨ p.tn.ends ≠ 0) := by rw [h.tn]; decide
  unfold send0
  rw [if_neg ht, hq]
  by_cases hs : min (rowN row zs : Int) 10 = 10
  · rw [if_pos hs]
    have hr : rowN row zs = row + 1 := by unfold rowN at hs ⊢; split at hs <;> rename_i hh; omega; rw [if_neg hh]
    by_cases hb : p.below < 10
    · rw [if_pos hb]
      rw [h.below] at hb
      refine ⟨1, rfl, Nat.le_refl _, by omega, ⟨h.codec, h.src, ?_, ?_, rfl, h.cv, h.ci, h.tn, h.jt, h.tk, h.ht, ?_, ?_, h.seed, by omega, by omega⟩, ?_⟩
      · show (p.seq + 1) % 65536 = _; rw [h.seq]; omega
      · show (p.time + 160) % 4294967296 = _; rw [h.time]; omega
      · show (p.pk + 1) % 4294967296 = _; rw [h.pk]; omega
      · show 0 ≤ (p.oc + _) % 4294967296 ∧ (p.oc + _) % 4294967296 ≤ 4294967295; omega
      · intro k hk
        obtain rfl := List.mem_singleton.1 hk
        exact ⟨h.seq, h.time, h.src, by simp [emit]; omega⟩
    · rw [if_neg hb]
      rw [h.below] at hb
      refine ⟨0, rfl, by omega, by omega, ⟨h.codec, h.src, h.seq, ?_, rfl, h.cv, h.ci, h.tn, h.jt, h.tk, h.ht, h.pk, h.oc, h.seed, by omega, by omega⟩, ?_⟩
      · show (p.time + 160) % 4294967296 = _; rw [h.time]; omega
      · intro k hk; cases hk
  · rw [if_neg hs]
    refine ⟨1, rfl, Nat.le_refl _, by omega, ⟨h.codec, h.src, ?_, ?_, rfl, ?_, ?_, h.tn, h.jt, h.tk, h.ht, ?_, ?_, h.seed, by omega, by omega⟩, ?_⟩
    · show (p.seq + 1) % 65536 = _; rw [h.seq]; omega
    · show (p.time + 160) % 4294967296 = _; rw [h.time]; omega
    · show (enc p.codec (p.cv, p.ci) zs).2.1 = 0
      rw [h.codec]; exact h.cv
    · show (enc p.codec (p.cv, p.ci) zs).2.2 = 0
      rw [h.codec]; exact h.ci
    · show (p.pk + 1) % 4294967296 = _; rw [h.pk]; omega
    · show 0 ≤ (p.oc + _) % 4294967296 ∧ (p.oc + _) % 4294967296 ≤ 4294967295; omega
    · intro k hk
      obtain rfl := List.mem_singleton.1 hk
      refine ⟨h.seq, h.time, h.src, ?_⟩
      show p.codec = 13 ↔ _
      rw [h.codec]
      omega
end Go.Proofs.YtahbecinkciahaaGreat.Sb
/- Layer 32, the examples that every law of the chapter looks at, in plain words; no program in sight. -/
namespace Go.Proofs.YtahbecinkciahaaGreat.Sb
open Go.RowKit
set_option linter.unusedVariables false
def flatL (v : Int) : List Int := List.replicate 160 v
theorem flatL_len (v : Int) : (flatL v).length = 160 := List.length_replicate
theorem flatL_in {v : Int} (h0 : -32768 ≤ v) (h1 : v ≤ 32767) : ∀ z ∈ flatL v, -32768 ≤ z ∧ z ≤ 32767 := fun z hz => by
  obtain rfl := List.eq_of_mem_replicate hz
  exact ⟨h0, h1⟩
/-- the port of the examples -/
def lv0 : Pt := { Pt.zero with codec := 0, src := 7, mrk := true, jt := (Jb.new 40 200).1, seed := 7 }
theorem lv_new : new 0 7 40 200 = (lv0, 0) := by
  unfold new
  rw [if_neg (by decide), if_pos (by decide)]; rfl
theorem lv_near : lv0.near := by unfold Pt.near lv0; decide
theorem lv_valid : lv0.valid = true := by
  unfold Pt.valid
  rw [decide_eq_true lv_near]
  show (speechB 0 && Dlt.valid 0 0 && Jb.valid (Jb.new 40 200).1 && Ev.Snd.zero.valid && true) = true
  rw [jb40.1, tn0]; decide
theorem lv_wf : lv0.wf := by constructor <;> decide
theorem quiet1000 (q : Int) : Ev.quiet q (flatL 1000) = 0 := by
  have h : Ev.lev (flatL 1000) < 60 := by decide +kernel
  unfold Ev.quiet; rw [if_pos h]
theorem mu1000 : (flatL 1000).map Cmp.muZ = flatL 206 := by decide +kernel
theorem lv_send : (send0 lv0 (flatL 1000)).2 = [⟨true, 0, 0, 0, 7, flatL 206⟩] ∧ (send0 lv0 (flatL 1000)).1.time = 160 := by
  have ht : ¬(lv0.tn.on = true ∨ lv0.tn.ends ≠ 0) := by decide
  unfold send0
  rw [if_neg ht, quiet1000, if_neg (by decide)]
  refine ⟨?_, rfl⟩
  show [(⟨true, 0, 0, 0, 7, (flatL 1000).map Cmp.muZ⟩ : Pkt)] = _
  rw [mu1000]
/-- the packet that arrives -/
def lvx : Arr := ⟨true, 0, 0, 0, flatL 206⟩
theorem lv_follow : Pk.follow lv0.tk 0 = (⟨true, 0, -1⟩, 0, true) := by
  show Pk.follow Pk.Tr.zero 0 = _
  unfold Pk.follow
  rw [if_neg (fun hn => hn (by decide)), if_pos (show Pk.Tr.zero.on = false from rfl)]
def lvm : Jb.Md := ⟨0, 0, true, 0, flatL 206⟩
theorem lv_put : (Jb.put (Jb.new 40 200).1 100 lvm).1 = ⟨40, 200, 100, true, 140, 0, 0, -1, 0, 100, [⟨140, lvm⟩], 0, 0, 0⟩ ∧ (Jb.put (Jb.new 40 200).1 100 lvm).2 = ([], 1, 0) := by
  have e : Jb.put (Jb.new 40 200).1 100 lvm = (⟨40, 200, 100, true, 140, 0, 0, -1, 0, 100, [⟨140, lvm⟩], 0, 0, 0⟩, [], 1, 0) := by
    have h0 : Jb.chk (Jb.new 40 200).1 100 (decide lvm.ok) = 0 := by decide +kernel
    unfold Jb.put
    rw [if_pos h0]
    rfl
  rw [e]; exact ⟨rfl, rfl⟩
def lv1 : Pt := { lv0 with tk := ⟨true, 0, -1⟩, ht := 0, st := Rep.arrive Rep.St.zero 0 800 0, jt := ⟨40, 200, 100, true, 140, 0, 0, -1, 0, 100, [⟨140, lvm⟩], 0, 0, 0⟩ }
theorem lv1_near : lv1.near := by unfold Pt.near lv1; decide
theorem lv1_valid : lv1.valid = true := by
  have hj : Jb.valid lv1.jt = true := by decide +kernel
  unfold Pt.valid
  rw [decide_eq_true lv1_near, hj]
  show (speechB 0 && Dlt.valid 0 0 && true && Ev.Snd.zero.valid && true) = true
  rw [tn0]; decide
theorem lv1_wf : lv1.wf := by constructor <;> decide
theorem fmu206 : (flatL 206).map Cmp.fromMuZ = flatL 988 := by decide +kernel
theorem lv_due : (Jb.run lv1.jt 140).2 = ([⟨140, lvm⟩], 0) := by
  have h0 : Jb.chk lv1.jt 140 true = 0 := by decide +kernel
  unfold Jb.run
  rw [if_pos h0]
  rfl
theorem lv_run : (run lv1 140).2 = [⟨140, flatL 988, []⟩] := by
  unfold run
  rw [lv_due]
  show [(⟨140, (flatL 206).map Cmp.fromMuZ, []⟩ : Sd)] = _
  rw [fmu206]
end Go.Proofs.YtahbecinkciahaaGreat.Sb
/- Layer 32: lists of sounds in memory. -/
namespace Go.Proofs.YtahbecinkciahaaGreat
open Go.RowKit
set_option linter.unusedVariables false
set_option linter.unusedSimpArgs false
/-- a sound in memory: where its samples lie (it has no keys) -/
structure TS where
  s : Sb.Sd
  S : Option Addr
  c : Nat
def TS.row (a : TS) : List Value := [.int .i64 a.s.at_, .slice a.S a.s.zs.length a.c, .slice none 0 0]
/-- a list of sounds lies at A, below n -/
def Sds (w : World) (n : Nat) (A : Option Addr) (l : List TS) : Prop := RowsAt w n 3 TS.row A l ∧ ∀ a ∈ l, IntsAt w n .i16 a.S a.s.zs
section
variable {w w' : World} {n : Nat} {A : Option Addr} {l : List TS}
theorem Sds.nil : Sds w n A [] := ⟨RowsAt.nil, fun _ h => by cases h⟩
theorem Sds.keep (h : Sds w n A l) (hk : ∀ p : Addr, p.block < n → w'.cell? p = w.cell? p) : Sds w' n A l := ⟨h.1.keep hk, fun a ha => (h.2 a ha).keep hk⟩
theorem Sds.more {m : Nat} (h : Sds w n A l) (hm : n ≤ m) : Sds w m A l := ⟨h.1.more hm, fun a ha => (h.2 a ha).more hm⟩
theorem Sds.later (h : Sds w w.heap.size A l) (hb : Below w.heap.size w w') : Sds w' w'.heap.size A l := (h.keep fun _ hp => hb.cell hp).more hb.size
theorem Sds.push (h : Sds w w.heap.size A l) (o : Obj) : Sds (w.alloc o) (w.alloc o).heap.size A l := (h.keep fun p hp => World.cell?_alloc_lt w o p hp).more (by simp)
end
theorem rowsSd {w : World} {n : Nat} {A : Option Addr} {l : List TS} (h : RowsAt w n 3 TS.row A l) {k : Nat} {a : TS} (ha : l[k]? = some a) : ∃ b off, A = some ⟨b, off, none⟩ ∧ b < n ∧
    w.cell? ⟨b, off + k * 3, none⟩ = some (.int .i64 a.s.at_) ∧ w.cell? ⟨b, off + k * 3 + 1, none⟩ = some (.slice a.S a.s.zs.length a.c) ∧ w.cell? ⟨b, off + k * 3 + 2, none⟩ = some (.slice none 0 0) := by
  obtain ⟨b, off, rfl, hb, hc⟩ := h (by have := (List.getElem?_eq_some_iff.1 ha).1; omega)
  exact ⟨b, off, rfl, hb, hc k a ha 0 _ rfl, hc k a ha 1 _ rfl, hc k a ha 2 _ rfl⟩
/-- sounds that the call has made: their row lies from base on, their samples elsewhere -/
structure SOwn (w : World) (base : Nat) (A : Option Addr) (n c : Nat) (l : List TS) : Prop where
  len : l.length = n
  own : Owns w base 86 3 A n c (l.flatMap TS.row)
  pay : ∀ a ∈ l, IntsAt w w.heap.size .i16 a.S a.s.zs
  far : ∀ a ∈ l, 0 < a.s.zs.length → ∀ b off, a.S = some ⟨b, off, none⟩ → some b ≠ ownB A
  new : ∀ a ∈ l, 0 < a.s.zs.length → ∀ b off, a.S = some ⟨b, off, none⟩ → base ≤ b
theorem SOwn.nil {w : World} {base : Nat} : SOwn w base none 0 0 [] := ⟨rfl, Owns.nil, (fun _ h => by cases h), (fun _ h => by cases h), (fun _ h => by cases h)⟩
theorem SOwn.below {w w' : World} {base n c : Nat} {A : Option Addr} {l : List TS} (h : SOwn w base A n c l) (hb : Below w.heap.size w w') : SOwn w' base A n c l :=
  ⟨h.len, h.own.below hb, fun a ha => (h.pay a ha).later hb, h.far, h.new⟩
theorem SOwn.step {wr v1 v2 wn : World} {base k c cn : Nat} {A An : Option Addr} {l : List TS} {a : TS} (h : SOwn wr base A k c l) (hbs : base ≤ wr.heap.size) (hb : Below wr.heap.size wr v1) (hb2 : Below v1.heap.size v1 v2) (hg : v2.grownBy wn (ownB A))
    (hown : Owns wn base 86 3 An (k + 1) cn (l.flatMap TS.row ++ a.row)) (hat : ownB An = ownB A ∨ ∀ g, ownB An = some g → v2.heap.size ≤ g) (hI : IntsNew wr.heap.size v1 .i16 a.S a.s.zs) : SOwn wn base An (k + 1) cn (l ++ [a]) := by
  have s1 := hb.size
  have s2 := hb2.size
  have s3 := hg.size
  have hA : ∀ g, ownB A = some g → g < wr.heap.size := fun g hg' => (h.own.block g hg').2
  have key : ∀ (x : TS), IntsAt v2 v2.heap.size .i16 x.S x.s.zs → (0 < x.s.zs.length → ∀ b off, x.S = some ⟨b, off, none⟩ → some b ≠ ownB A) → IntsAt wn wn.heap.size .i16 x.S x.s.zs := by
    intro x hx hf h0
    obtain ⟨b, off, e, hlt, hc⟩ := hx h0
    exact ⟨b, off, e, by omega, fun i hi => hg.cell (hc i hi) (hf h0 b off e)⟩
  have farN : ∀ b off, 0 < a.s.zs.length → a.S = some ⟨b, off, none⟩ → wr.heap.size ≤ b ∧ b < v1.heap.size := by
    intro b off h0 e
    refine ⟨hI.2 h0 b off e, ?_⟩
    obtain ⟨b', off', e', hlt, _⟩ := hI.1 h0
    rw [e] at e'
    injection e' with e'
    injection e' with e1 _
    omega
  have farO : ∀ x ∈ l, ∀ b off, 0 < x.s.zs.length → x.S = some ⟨b, off, none⟩ → b < wr.heap.size := by
    intro x hx b off h0 e
    obtain ⟨b', off', e', hlt, _⟩ := h.pay x hx h0
    rw [e] at e'
    injection e' with e'
    injection e' with e1 _
    omega
  refine ⟨by simp [h.len], by rw [List.flatMap_append]; simpa using hown, fun x hx => ?_, fun x hx h0 b off e => ?_, fun x hx h0 b off e => ?_⟩
  · rcases List.mem_append.1 hx with hx | hx
    · exact key x (((h.pay x hx).later hb).later hb2) (h.far x hx)
    · obtain rfl := List.mem_singleton.1 hx
      refine key x (hI.1.later hb2) (fun h0 b off e he => ?_)
      have := farN b off h0 e
      have := hA b he.symm
      omega
  · rcases List.mem_append.1 hx with hx | hx
    · rcases hat with e2 | e2
      · rw [e2]; exact h.far x hx h0 b off e
      · intro he
        have := farO x hx b off h0 e
        have := e2 b he.symm
        omega
    · obtain rfl := List.mem_singleton.1 hx
      have := farN b off h0 e
      rcases hat with e2 | e2
      · rw [e2]
        intro he
        have := hA b he.symm
        omega
      · intro he
        have := e2 b he.symm
        omega
  · rcases List.mem_append.1 hx with hx | hx
    · exact h.new x hx h0 b off e
    · obtain rfl := List.mem_singleton.1 hx
      have := farN b off h0 e
      omega
theorem SOwn.sds {w : World} {base n c : Nat} {A : Option Addr} {l : List TS} (h : SOwn w base A n c l) : Sds w w.heap.size A l := by
  refine ⟨?_, h.pay⟩
  exact Owns.rows h.own h.len (fun a => rfl)
end Go.Proofs.YtahbecinkciahaaGreat
/- Same of two slices of 16-bit integers, of the reference of layer 27. -/
namespace Go.Proofs.YtahbecinkciahaaGreat
open Go.RowKit
set_option linter.unusedVariables false
set_option maxRecDepth 100000 in
set_option maxHeartbeats 400000 in
theorem sameInts (A B : Option Addr) (zs : List Int) (n c d : Nat) (hn : zs.length = n) (w : World) (hA : IntsAt w w.heap.size .i16 A zs) (hB : IntsAt w w.heap.size .i16 B zs) (h63 : n ≤ 140737488355328) :
    Calls Tryz.prog 33 #[.slice A n c, .slice B n d] w fun e w' => e = .returned (.bool true) ∧ Below w.heap.size w w' := by
  subst hn
  go_enter Tryz.func33, Tryz.ntmps33
  go_wp2
  go_loopw [5] (fun i wr => ∃ k : Nat, k ≤ zs.length ∧ i = .int .i64 k ∧ Below w.heap.size w wr) (fun i _ => zs.length - (intOf i).toNat)
  case atStart => exact ⟨0, Nat.zero_le _, rfl, Below.refl _ _⟩
  case round =>
    obtain ⟨k, hk, rfl, hb⟩ := hrel
    by_cases hlt : k < zs.length
    · obtain ⟨b, off, rfl, hbB, hcell⟩ := hA (by omega)
      obtain ⟨b2, off2, rfl, hbB2, hcell2⟩ := hB (by omega)
      have hck : wr.cell? ⟨b, off + k, none⟩ = some (.int .i16 (zs.getD k 0)) := (hb.cell (p := ⟨b, off + k, none⟩) hbB).trans (hcell k hlt)
      have hck2 : wr.cell? ⟨b2, off2 + k, none⟩ = some (.int .i16 (zs.getD k 0)) := (hb.cell (p := ⟨b2, off2 + k, none⟩) hbB2).trans (hcell2 k hlt)
      clear hcell hcell2
      generalize zs.getD k 0 = z at hck hck2
      have hi0 : (0 : Int) ≤ (k : Int) := by omega
      have hi1 : (k : Int) < (zs.length : Int) := by omega
      go_wp2
      go_quiet (fail)
      go_wp2
      go_roundw
      case rel => exact ⟨k + 1, by omega, by go_num, Bel.drewN hb _⟩
      case measure => simp [intOf]; omega
    · go_wp2
      go_ret
      exact ⟨rfl, hb⟩
end Go.Proofs.YtahbecinkciahaaGreat
/- Layer 32: small functions of the laws; sounds that are the same. -/
namespace Go.Proofs.YtahbecinkciahaaGreat
open Go.RowKit
set_option linter.unusedVariables false
set_option linter.unusedSimpArgs false
attribute [local go_sem ↓] run_min_plain run_max_plain
attribute [local go_sem] setCell_drewN alloc_drewN
theorem sb_i16 : (Tryz.prog.info? 93).map (fun i => (i.zero, i.size, i.bytes)) = some (some (.int .i16 0), 1, 2) := by kernel_rfl
def SliceR (zs : List Int) (w : World) (e : Ending) (w' : World) : Prop := ∃ (A : Option Addr) (c : Nat), e = .returned (.slice A 160 c) ∧ IntsNew w.heap.size w' .i16 A zs ∧ Below w.heap.size w w'
set_option maxRecDepth 100000 in
set_option maxHeartbeats 12800000 in
theorem flat_any (v : Int) (w : World) : Calls Tryz.prog 35 #[.int .i16 v] w (SliceR (Sb.flatL v) w) := by
  go_enter Tryz.func35, Tryz.ntmps35
  go_wp2
  go_loopw [3, 4] (fun o i wr => ∃ (k : Nat) (A' : Option Addr) (c' : Nat), k ≤ 160 ∧ i = .int .i64 k ∧ o = .slice A' k c' ∧ Owns wr w.heap.size 93 1 A' k c' ((List.replicate k v).map (Value.int .i16)) ∧ Below w.heap.size w wr) (fun _ i _ => 160 - (intOf i).toNat)
  case atStart => exact ⟨0, none, 0, Nat.zero_le _, rfl, rfl, Owns.nil, Below.refl _ _⟩
  case round =>
    obtain ⟨k, A', c', hk, rfl, rfl, ho, hb⟩ := hrel
    have HO := Lib.hid ho
    have HB := Lib.hid hb
    have hbs := hb.size
    have hi0 : (0 : Int) ≤ (k : Int) := by omega
    clear ho hb
    by_cases hlt : k < 160
    · have hi1 : (k : Int) < 160 := by omega
      go_wp2_with (at_builtin; go_loud (refine wpList_append_one rfl _ _ 66 rfl w.heap.size 93 1 2 (.int .i16 0) Tryz.underlying66 sb_i16 rfl (by decide) A' k c' _ rfl HO.out [.int .i16 _] rfl (by simp [Value.oneCell']) rfl (by unfold maxLen; omega) (by omega) hbs ?_); intro A2 c2 w2 hown2 hg2 hlt2)
      go_roundw
      case rel =>
        refine ⟨k + 1, A2, c2, by omega, by go_num, rfl, ?_, below_own HB.out HO.out hg2 hbs (Nat.le_refl _)⟩
        rw [List.replicate_succ', List.map_append]
        exact hown2
      case measure => simp [intOf]; omega
    · obtain rfl : k = 160 := by omega
      go_wp2
      go_ret
      exact ⟨_, _, rfl, IntsNew.of_own HO.out (Nat.le_refl _), HB.out⟩
def WaveR (w : World) (e : Ending) (w' : World) : Prop := ∃ (zs : List Int) (A : Option Addr) (c : Nat), zs.length = 160 ∧ Within (-32768) 32767 zs ∧ e = .returned (.slice A 160 c) ∧ IntsNew w.heap.size w' .i16 A zs ∧ Below w.heap.size w w'
set_option maxRecDepth 100000 in
set_option maxHeartbeats 12800000 in
theorem buffer_any (w : World) : Calls Tryz.prog 34 #[] w fun e w' => e = .returned (.agg #[.int .i64 40, .int .i64 200]) ∧ Below w.heap.size w w' := by
  go_enter Tryz.func34, Tryz.ntmps34
  go_wp2_with fail
  refine bodyPost_ret (v := .agg #[.int .i64 40, .int .i64 200]) (res_c Tryz.results34 rfl (run_loadVar_row (P := Tryz.prog) _ _ _ _ _ _ _ (Blk.new w 37 #[.int .i64 40, .int .i64 200]) Tryz.underlying37 rfl (by kernel_rfl))) rfl ⟨rfl, (Bel.refl w).push _⟩
end Go.Proofs.YtahbecinkciahaaGreat
/- Layer 32: what Send's closure does. -/
namespace Go.Proofs.YtahbecinkciahaaGreat
open Go.RowKit
set_option linter.unusedVariables false
set_option linter.unusedSimpArgs false
attribute [local go_sem ↓] run_min_plain run_max_plain
attribute [local go_sem] setCell_drewN alloc_drewN
theorem sb_infopk : (Tryz.prog.info? 51).map (fun i => (i.zero, i.size, i.bytes)) = some (some (.agg #[.bool false, .int .u8 0, .int .u16 0, .int .u32 0, .int .u32 0, .slice none 0 0, .bool false, .int .u16 0, .slice none 0 0, .slice none 0 0, .int .i64 0]), 11, 104) := by kernel_rfl
theorem sb_u16 (n : Int) : IntKind.u16.wrap n = n % 65536 := by simp [IntKind.wrap, IntKind.bits, IntKind.signed]
theorem sb_u32 (n : Int) : IntKind.u32.wrap n = n % 4294967296 := by simp [IntKind.wrap, IntKind.bits, IntKind.signed]
theorem OnlyB.owns_lt {w w' : World} {g base size n c : Nat} {e : TypeId} {A : Option Addr} {xs : List Value} (h : OnlyB g w w') (ho : Owns w base e size A n c xs) (hg : g < base) : Owns w' base e size A n c xs := h.owns ho hg
/-- the cells of a packet that is sent -/
def pktRow (k : Sb.Pkt) (B : Option Addr) (c : Nat) : List Value := [.bool k.mrk, .int .u8 k.ty, .int .u16 k.sq, .int .u32 k.ti, .int .u32 k.src, .slice none 0 0, .bool false, .int .u16 0, .slice none 0 0, .slice B k.pl.length c, .int .i64 0]
/-- what the closure leaves -/
def EmitR (S : List Nat) (g gl : Nat) (p : Sb.Pt) (A : Option Addr) (n c : Nat) (l : List TW) (kind ti : Int) (mrk : Bool) (PA1 : Option Addr) (pl : List Int) (plc : Nat) (w : World) (e : Ending) (w' : World) : Prop :=
  e = .returned (.tuple #[]) ∧ ∃ (A' : Option Addr) (c' : Nat), PM w' S g (Sb.emit p kind ti mrk pl).1 A n c l ∧ Blk w' gl 69 #[.slice A' 1 c'] ∧ Owns w' w.heap.size 51 11 A' 1 c' (pktRow (Sb.emit p kind ti mrk pl).2 PA1 plc) ∧ Chg [g, gl] w w'
set_option maxRecDepth 100000 in
set_option maxHeartbeats 12800000 in
theorem emit_any (S : List Nat) (g gl : Nat) (p : Sb.Pt) (hw : p.wf) (A : Option Addr) (n c : Nat) (l : List TW) (kind ti : Int) (mrk : Bool) (PA1 : Option Addr) (pl : List Int) (plc : Nat) (w : World) (h : PM w S g p A n c l) (hg : g ∈ S) (hgl : gl ∈ S) (hne : g ≠ gl) (HL : Blk w gl 69 #[.slice none 0 0]) (hpl : pl.length ≤ 100000) : Calls Tryz.prog 71 #[.int .u8 kind, .int .u32 ti, .bool mrk, .slice PA1 pl.length plc, .pointer (some ⟨gl, 0, none⟩), .pointer (some ⟨g, 0, none⟩)] w (EmitR S g gl p A n c l kind ti mrk PA1 pl plc w) := by
  have H := Lib.hid h
  have HL := Lib.hid HL
  have s0 := hw.seq
  have s1 := hw.pk
  have s2 := hw.oc
  clear h
  go_enter Tryz.func71, Tryz.ntmps71
  have x1 := H.out.box.cell 1 _ rfl
  have x2 := H.out.box.cell 2 _ rfl
  have l0 := HL.out.at 0 _ rfl
  have lz := HL.out.frozen 0
  have hlt := HL.out.lt
  have hlg := Blk.lt H.out.box
  go_upto_region 1 with (at_builtin; go_loud (refine wpList_append_at (w0 := w) rfl _ _ 69 rfl w.heap.size 51 11 104 _ Tryz.underlying69 sb_infopk rfl (by decide) none 0 0 [] rfl Owns.nil [.bool mrk, .int .u8 kind, .int .u16 p.seq, .int .u32 ti, .int .u32 p.src, .slice none 0 0, .bool false, .int .u16 0, .slice none 0 0, .slice PA1 pl.length plc, .int .i64 0] rfl (by simp [Value.oneCell']) rfl (by unfold maxLen; omega) (by omega) (Nat.le_refl _) ?_); intro A9 c9 v1 hown hgr hat; have BY := HL.out.grown hgr (by simp [ownB]); have y0 := BY.at 0 _ rfl; have yz := BY.frozen 0)
  obtain ⟨V1, hV1⟩ : ∃ W, W = v1.setCell ⟨gl, 0, none⟩ (.slice A9 1 c9) := ⟨_, rfl⟩
  rw [← hV1]
  have OV : OnlyB gl v1 V1 := by rw [hV1]; exact OnlyB.setCell _ _ _ _
  have BL := Lib.hid (show Blk V1 gl 69 #[.slice A9 1 c9] by rw [hV1]; exact BY.set_ 0 _)
  have C1 : Chg [gl] w V1 := (Chg.of_grown hgr (by simp [ownB])).trans (Chg.of_only OV (by simp))
  have HO := Lib.hid (OV.owns (by simpa using hown) hlt)
  replace H := Lib.hid (H.out.chg C1 (by simpa using hgl) (by simpa using hne))
  replace C1 := Lib.hid (C1.more (T := [g, gl]) (by simp))
  clear hV1 OV BY y0 yz hown hgr hat l0 lz x1 x2 HL
  have ew : IntKind.u32.wrap (pl.length : Int) = (pl.length : Int) := by rw [sb_u32]; omega
  have xc := H.out.box.cell 2 _ rfl
  have xz := Blk.frozen H.out.box 2
  go_upto_region 2 with fail
  obtain ⟨V2, hV⟩ : ∃ W, W = V1.setCell ⟨g, 2, none⟩ (.int .u16 (IntKind.u16.wrap (p.seq + 1))) := ⟨_, rfl⟩
  rw [← hV]
  rw [sb_u16] at hV
  replace H := Lib.hid (show PM V2 S g { p with seq := (p.seq + 1) % 65536 } A n c l by rw [hV]; exact H.out.set hg 2 _ _ rfl rfl)
  have OV : OnlyB g V1 V2 := by rw [hV]; exact OnlyB.setCell _ _ _ _
  replace BL := Lib.hid (OV.blk BL.out (fun e => hne e.symm))
  replace HO := Lib.hid (OV.owns_lt HO.out hlg)
  replace C1 := Lib.hid (C1.out.trans (Chg.of_only OV (by simp)))
  clear hV OV xc xz
  have xc := H.out.box.cell 46 _ rfl
  have xz := Blk.frozen H.out.box 46
  go_upto_region 3 with fail
  obtain ⟨V3, hV⟩ : ∃ W, W = V2.setCell ⟨g, 46, none⟩ (.int .u32 ((p.pk + 1) % 4294967296)) := ⟨_, rfl⟩
  rw [← hV]
  replace H := Lib.hid (show PM V3 S g { p with seq := (p.seq + 1) % 65536, pk := (p.pk + 1) % 4294967296 } A n c l by rw [hV]; exact H.out.set hg 46 _ _ rfl rfl)
  have OV : OnlyB g V2 V3 := by rw [hV]; exact OnlyB.setCell _ _ _ _
  replace BL := Lib.hid (OV.blk BL.out (fun e => hne e.symm))
  replace HO := Lib.hid (OV.owns_lt HO.out hlg)
  replace C1 := Lib.hid (C1.out.trans (Chg.of_only OV (by simp)))
  clear hV OV xc xz
  have xc := H.out.box.cell 47 _ rfl
  have xz := Blk.frozen H.out.box 47
  go_wp2_with fail
  obtain ⟨V4, hV⟩ : ∃ W, W = V3.setCell ⟨g, 47, none⟩ (.int .u32 ((p.oc + (pl.length : Int)) % 4294967296)) := ⟨_, rfl⟩
  rw [← hV]
  replace H := Lib.hid (show PM V4 S g (Sb.emit p kind ti mrk pl).1 A n c l by rw [hV]; exact H.out.set hg 47 _ _ rfl rfl)
  have OV : OnlyB g V3 V4 := by rw [hV]; exact OnlyB.setCell _ _ _ _
  replace BL := Lib.hid (OV.blk BL.out (fun e => hne e.symm))
  replace HO := Lib.hid (OV.owns_lt HO.out hlg)
  replace C1 := Lib.hid (C1.out.trans (Chg.of_only OV (by simp)))
  clear hV OV xc xz
  go_end0
  exact ⟨rfl, A9, c9, H.out, BL.out, HO.out, C1.out⟩
end Go.Proofs.YtahbecinkciahaaGreat
/- Layer 32: copyBuffer. -/
namespace Go.Proofs.YtahbecinkciahaaGreat
open Go.RowKit
set_option linter.unusedVariables false
set_option linter.unusedSimpArgs false
attribute [local go_sem ↓] run_min_plain run_max_plain
attribute [local go_sem] setCell_drewN alloc_drewN
theorem sb_infow : (Tryz.prog.info? 105).map (fun i => (i.zero, i.size, i.bytes)) = some (some (.agg #[.int .i64 0, .int .i64 0, .int .i64 0, .bool false, .int .u8 0, .slice none 0 0]), 6, 56) := by kernel_rfl
theorem sb_info8 : (Tryz.prog.info? 5).map (fun i => (i.zero, i.size, i.bytes)) = some (some (.int .u8 0), 1, 1) := by kernel_rfl
theorem QOwn.only {w w' : World} {g base n c : Nat} {A : Option Addr} {l : List TW} (h : QOwn w base A n c l) (ho : OnlyB g w w') (hg : g < base) : QOwn w' base A n c l :=
  ⟨h.len, ho.owns h.own hg, fun a ha h0 => by
    obtain ⟨b, off, e, hlt, hc⟩ := h.pay a ha h0
    have := h.new a ha h0 b off e
    exact ⟨b, off, e, by rw [ho.2]; exact hlt, fun i hi => (ho.cell (show b ≠ g by omega)).trans (hc i hi)⟩, h.far, h.new⟩
/-- what copyBuffer leaves -/
def CopyR (s : Jb.Jt) (l : List TW) (w : World) (e : Ending) (w' : World) : Prop :=
  ∃ (A' : Option Addr) (c' : Nat) (l' : List TW), e = .returned (.agg (JW s A' l.length c').toArray) ∧ l'.map TW.w = l.map TW.w ∧ QOwn w' (w.heap.size + 2) A' l.length c' l' ∧ Below w.heap.size w w'
set_option maxRecDepth 100000 in
set_option maxHeartbeats 12800000 in
theorem copyBuffer_any (s : Jb.Jt) (A : Option Addr) (l : List TW) (n c : Nat) (w : World) (hn : l.length = n) (hl : n ≤ 100000) (hA : Wts w w.heap.size A l) (hp : ∀ a ∈ l, a.w.m.pl.length ≤ 1000000) : Calls Tryz.prog 60 #[.agg #[.int .i64 s.least, .int .i64 s.most, .int .i64 s.now, .bool s.on, .int .i64 s.zero, .int .i64 s.first, .int .i64 s.high, .int .i64 s.done, .int .i64 s.spread, .int .i64 s.trans, .slice A n c, .int .i64 s.late, .int .i64 s.twice, .int .i64 s.played]] w (CopyR s l w) := by
  subst hn
  have HA := Lib.hid hA
  have HP := Lib.hid hp
  clear hA hp
  have BS := Lib.hid ((Blk.new w 40 (JW s A l.length c).toArray).push (.cells (JW Jb.Jt.none none 0 0).toArray 40))
  have BR := Lib.hid (Blk.new1 w (.cells (JW s A l.length c).toArray 40) 40 (JW Jb.Jt.none none 0 0).toArray)
  have U0 := Lib.hid (((Bel.refl w).push (.cells (JW s A l.length c).toArray 40)).push (.cells (JW Jb.Jt.none none 0 0).toArray 40))
  go_enter Tryz.func60, Tryz.ntmps60
  go_upto_region 1 with fail
  obtain ⟨W0, hW0⟩ : ∃ W, W = (w.alloc (Obj.cells #[.int .i64 s.least, .int .i64 s.most, .int .i64 s.now, .bool s.on, .int .i64 s.zero, .int .i64 s.first, .int .i64 s.high, .int .i64 s.done, .int .i64 s.spread, .int .i64 s.trans, .slice A l.length c, .int .i64 s.late, .int .i64 s.twice, .int .i64 s.played] 40)).alloc (Obj.cells (JW Jb.Jt.none none 0 0).toArray 40) := ⟨_, rfl⟩
  change Code.wp _ _ _ _ ((w.alloc (Obj.cells #[.int .i64 s.least, .int .i64 s.most, .int .i64 s.now, .bool s.on, .int .i64 s.zero, .int .i64 s.first, .int .i64 s.high, .int .i64 s.done, .int .i64 s.spread, .int .i64 s.trans, .slice A l.length c, .int .i64 s.late, .int .i64 s.twice, .int .i64 s.played] 40)).alloc (Obj.cells (JW Jb.Jt.none none 0 0).toArray 40))
  rw [← hW0]
  change Hid (Blk ((w.alloc (Obj.cells #[.int .i64 s.least, .int .i64 s.most, .int .i64 s.now, .bool s.on, .int .i64 s.zero, .int .i64 s.first, .int .i64 s.high, .int .i64 s.done, .int .i64 s.spread, .int .i64 s.trans, .slice A l.length c, .int .i64 s.late, .int .i64 s.twice, .int .i64 s.played] 40)).alloc (Obj.cells (JW Jb.Jt.none none 0 0).toArray 40)) _ _ _) at BS BR
  change Hid (Bel w ((w.alloc (Obj.cells #[.int .i64 s.least, .int .i64 s.most, .int .i64 s.now, .bool s.on, .int .i64 s.zero, .int .i64 s.first, .int .i64 s.high, .int .i64 s.done, .int .i64 s.spread, .int .i64 s.trans, .slice A l.length c, .int .i64 s.late, .int .i64 s.twice, .int .i64 s.played] 40)).alloc (Obj.cells (JW Jb.Jt.none none 0 0).toArray 40))) at U0
  rw [← hW0] at BS BR U0
  clear hW0
  have x10 := BS.out.at 10 (.slice A l.length c) rfl
  go_wp2_with fail
  go_loopg [3, 9] l.length (fun gk s3 i wr => ∃ (k : Nat) (A' : Option Addr) (c' : Nat) (l' : List TW), gk + k = l.length ∧ s3 = .slice A' k c' ∧ i = .int .i64 k ∧ Hid (l'.map TW.w = (l.map TW.w).take k) ∧ Hid (QOwn wr (w.heap.size + 2) A' k c' l') ∧ Hid (Blk wr w.heap.size 40 (JW s A l.length c).toArray) ∧ Hid (Blk wr (w.heap.size + 1) 40 (JW Jb.Jt.none none 0 0).toArray) ∧ Hid (Bel w wr))
  case atStart => exact ⟨0, none, 0, [], rfl, rfl, rfl, Lib.hid rfl, Lib.hid QOwn.nil, BS, BR, U0⟩
  case round =>
    obtain ⟨k, A', c', l', hgk, rfl, rfl, HL, HO, BS, BR, U⟩ := hrel
    have hi0 : (0 : Int) ≤ (k : Int) := by omega
    have hl2 := BR.out.lt
    by_cases hk : k < l.length
    rotate_left
    · obtain rfl : k = l.length := by omega
      have hi1 : (l.length : Int) ≤ (l.length : Int) := Int.le_refl _
      have x10 := BS.out.at 10 (.slice A l.length c) rfl
      have fz := BS.out.frozen 10
      go_upto_region 9 with fail
      obtain ⟨V, hV⟩ : ∃ W, W = wr.setCell ⟨w.heap.size, 10, none⟩ (.slice A' l.length c') := ⟨_, rfl⟩
      rw [← hV]
      have OV : OnlyB w.heap.size wr V := by rw [hV]; exact OnlyB.setCell _ _ _ _
      have BV : Blk V w.heap.size 40 (JW s A' l.length c').toArray := by rw [hV]; exact BS.out.set_ 10 _
      have BR2 := OV.blk BR.out (by omega)
      have U2 := OV.bel U.out (Nat.le_refl _)
      have HO2 : Owns V _ _ _ _ _ _ _ := OV.owns HO.out.own (by omega)
      clear x10 fz hV
      go_wp2_with (first | (refine wpList_load_part rfl 40 (.tmp 1) rfl w.heap.size 0 rfl 40 (JW s A' l.length c') BV 14 _ Tryz.underlying40 info_jit (Nat.le_refl 14) _ rfl rfl ?_) | (refine wpList_store_part rfl 40 (.tmp 2) (.tmp 26) rfl (w.heap.size + 1) 0 rfl 40 _ BR2 (JW s A' l.length c') rfl info_jit (Nat.le_refl 14) rfl (JW s A' l.length c') rfl ?_; intro WF BF OF))
      refine bodyPost_ret (v := .agg (JW s A' l.length c').toArray) (results_cell_row (p := 2) (ty := 40) rfl _ _ (w.heap.size + 1) 40 _ (0, 0) _ rfl BF Tryz.underlying40 rfl info_jit) rfl ⟨A', c', l', rfl, by rw [HL.out, List.take_of_length_le (by simp)], ?_, OF.bel U2 (by omega)⟩
      exact ((HO.out.only OV (by omega)).only OF (by omega))
    have hi1 : (k : Int) < (l.length : Int) := by omega
    obtain ⟨a, ha⟩ : ∃ a, l[k]? = some a := ⟨_, List.getElem?_eq_getElem hk⟩
    obtain ⟨b, off, rfl, hbB, e0, e1, e2, e3, e4, e5⟩ := rowsW (HA.out.1.keep (fun p hp => U.out.cell hp)) ha
    have hpa := HP.out a (List.mem_of_getElem? ha)
    have hia := (HA.out.2 a (List.mem_of_getElem? ha)).keep (w' := wr) (fun p hp => U.out.cell hp)
    have hm : (l.map TW.w)[k]? = some a.w := by rw [List.getElem?_map, ha]; rfl
    have HM := Lib.hid hm
    obtain ⟨⟨at0, ⟨sq0, ti0, mk0, ty0, pl0⟩⟩, B0, c0⟩ := a
    simp only at e0 e1 e2 e3 e4 e5 hpa hia HM
    have IA := Lib.hid hia
    have BX := Lib.hid (Blk.new wr 105 #[.int .i64 at0, .int .i64 sq0, .int .i64 ti0, .bool mk0, .int .u8 ty0, .slice B0 pl0.length c0])
    clear ha hm hia
    have hbs := U.out.size
    go_upto_region 5 with fail
    have hp5 : 0 + pl0.length ≤ maxLen := by unfold maxLen; omega
    have hp6 : (0 + pl0.length) * 1 ≤ 140737488355328 := by omega
    go_upto_region 6 with (at_builtin; go_loud (refine wpList_append_ints rfl (.const (.slice none 0 0)) _ 22 rfl (wr.heap.size + 1) 5 1 (.int .u8 0) Tryz.underlying22 sb_info8 rfl none 0 0 [] rfl Owns.nil w.heap.size .u8 B0 c0 pl0 rfl (IA.out.alloc hbs _) hp5 hp6 (by rw [size_alloc1]; exact Nat.le_refl _) pl0.length (by omega) ?_); intro A9 c9 v1 hown9 hgr9 hat9; have BY := BX.out.grown hgr9 (by simp [ownB]); have y0 := BY.at 0 _ rfl; have y1 := BY.at 1 _ rfl; have y2 := BY.at 2 _ rfl; have y3 := BY.at 3 _ rfl; have y4 := BY.at 4 _ rfl; have y5 := BY.at 5 _ rfl; have yz := BY.frozen 5)
    have UW : Below wr.heap.size wr (wr.alloc (.cells #[.int .i64 at0, .int .i64 sq0, .int .i64 ti0, .bool mk0, .int .u8 ty0, .slice B0 pl0.length c0] 105)) := (Below.refl _ _).alloc (Nat.le_refl _) _
    have hI9 : IntsNew wr.heap.size v1 .u8 A9 pl0 := IntsNew.of_own hown9 (by omega)
    have UV : Below wr.heap.size wr v1 := UW.grown hgr9 UW.size (fun g e => by simp [ownB] at e)
    have hne9 : ∀ g, ownB A9 = some g → g ≠ wr.heap.size := fun g e => by have := (hown9.block g e).1; omega
    obtain ⟨V1, hV1⟩ : ∃ W, W = v1.setCell ⟨wr.heap.size, 5, none⟩ (.slice A9 pl0.length c9) := ⟨_, rfl⟩
    rw [← hV1]
    have OV : OnlyB wr.heap.size v1 V1 := by rw [hV1]; exact OnlyB.setCell _ _ _ _
    have BV : Blk V1 wr.heap.size 105 #[.int .i64 at0, .int .i64 sq0, .int .i64 ti0, .bool mk0, .int .u8 ty0, .slice A9 pl0.length c9] := by rw [hV1]; exact BY.set_ 5 _
    have HI9 : Hid (IntsNew wr.heap.size V1 .u8 A9 pl0) := Lib.hid (IntsNew.of_own (base := wr.heap.size + 1) (OV.owns hown9 (by omega)) (by omega))
    replace UV := Lib.hid (OV.below UV UV.size (Nat.le_refl _))
    have HO1 := Lib.hid (HO.out.below UV.out)
    clear hV1 OV BY y0 y1 y2 y3 y4 y5 yz hgr9 hown9 hat9 hI9 hne9 UW BX IA hp5 hp6
    have z0 := BV.at 0 _ rfl
    have z1 := BV.at 1 _ rfl
    have z2 := BV.at 2 _ rfl
    have z3 := BV.at 3 _ rfl
    have z4 := BV.at 4 _ rfl
    have z5 := BV.at 5 _ rfl
    clear BV e0 e1 e2 e3 e4 e5
    have h5 : (k + 1) * 56 ≤ 140737488355328 := by omega
    have h6 : k + 1 ≤ maxLen := by unfold maxLen; omega
    have h7 : w.heap.size + 2 ≤ V1.heap.size := by have := UV.out.size; omega
    have HX := Lib.hid HO1.out.own
    go_wp2_with (at_builtin; go_loud (refine wpList_append_at (w0 := V1) rfl _ _ 38 rfl (w.heap.size + 2) 105 6 56 _ Tryz.underlying38 sb_infow rfl (by decide) A' k c' _ rfl HX.out [.int .i64 at0, .int .i64 sq0, .int .i64 ti0, .bool mk0, .int .u8 ty0, .slice A9 pl0.length c9] rfl (by simp [Value.oneCell']) rfl h6 h5 h7 ?_); intro An cn wn hown hgr hat)
    have hAk : ∀ g, ownB A' = some g → w.heap.size + 2 ≤ g := fun g e => (HO.out.own.block g e).1
    have BS2 := Lib.hid ((BS.out.below UV.out (by omega)).grown hgr (fun e => by have := hAk _ e.symm; omega))
    have BR2 := Lib.hid ((BR.out.below UV.out (by omega)).grown hgr (fun e => by have := hAk _ e.symm; omega))
    have U2 : Hid (Bel w wn) := Lib.hid ((U.out.later UV.out).grown hgr (by have := UV.out.size; omega) (fun g e => by have := hAk g e; omega))
    have HO2 := Lib.hid (HO.out.step (a := ⟨⟨at0, ⟨sq0, ti0, mk0, ty0, pl0⟩⟩, A9, c9⟩) (by omega) UV.out (Below.refl _ _) hgr (by simpa [TW.row] using hown) hat HI9.out)
    clear hown hgr hat hAk z0 z1 z2 z3 z4 z5 h5 h6 h7
    go_wp2_with fail
    go_roundg (gk - 1)
    case measure => omega
    case rel => exact ⟨k + 1, An, cn, l' ++ [⟨⟨at0, ⟨sq0, ti0, mk0, ty0, pl0⟩⟩, A9, c9⟩], by omega, rfl, by go_num, Lib.hid (by rw [List.map_append, HL.out, List.take_add_one, HM.out]; rfl), HO2, BS2, BR2, U2⟩
end Go.Proofs.YtahbecinkciahaaGreat
/- Layer 29: senders: validSender, Press, Release, Next of the program and of the reference. -/
namespace Go.Proofs.YtahbecinkciahaaGreat
open Go.RowKit
set_option linter.unusedVariables false
attribute [local go_sem ↓] run_min_plain run_max_plain
attribute [local go_sem] setCell_drewN alloc_drewN
/-- a sender's cells -/
def Ev.Snd.row (s : Ev.Snd) : Array Value := #[.bool s.on, .int .u8 s.code, .int .u8 s.vol, .int .u32 s.start, .int .i64 s.len, .int .i64 s.ends]
section
variable (on : Bool) (code vol start len ends c v t n : Int) (w : World)
set_option maxRecDepth 100000 in
set_option maxHeartbeats 800000 in
theorem validSender_any :
    Calls Tryz.prog 126 #[.agg #[.bool on, .int .u8 code, .int .u8 vol, .int .u32 start, .int .i64 len, .int .i64 ends]] w fun e w' => e = .returned (.bool (Ev.Snd.valid ⟨on, code, vol, start, len, ends⟩)) ∧ w.alloc (.cells #[.bool on, .int .u8 code, .int .u8 vol, .int .u32 start, .int .i64 len, .int .i64 ends] 35) = w' := by
  cases on
  all_goals
    go_enter Tryz.func126, Tryz.ntmps126
    go_wp2
    all_goals go_ret
    all_goals refine ⟨?_, rfl⟩
    all_goals (simp_all [Ev.Snd.valid])
    all_goals omega
set_option linter.unusedSimpArgs false in
set_option maxRecDepth 100000 in
set_option maxHeartbeats 1600000 in
theorem Release_any :
    Calls Tryz.prog 66 #[.agg #[.bool on, .int .u8 code, .int .u8 vol, .int .u32 start, .int .i64 len, .int .i64 ends]] w fun e w' => e = .returned (.tuple #[.agg (Ev.release ⟨on, code, vol, start, len, ends⟩).1.row, .int .u8 (Ev.release ⟨on, code, vol, start, len, ends⟩).2]) ∧ Below w.heap.size w w' := by
  have k1 := Lib.hid fun W => validSender_any on code vol start len ends W
  obtain ⟨R, hR⟩ : ∃ R, R = Ev.release ⟨on, code, vol, start, len, ends⟩ := ⟨_, rfl⟩
  rw [← hR]
  obtain ⟨V, hV⟩ : ∃ V, V = Ev.Snd.valid ⟨on, code, vol, start, len, ends⟩ := ⟨_, rfl⟩
  unfold Ev.release at hR
  rw [← hV] at k1 hR
  have HR := Lib.hid hR
  clear hV hR
  cases V <;> cases on
  all_goals
    go_enter Tryz.func66, Tryz.ntmps66
    go_wp2_with (go_at_call 126; refine (k1.out _).mono ?_; rintro e w1 ⟨rfl, rfl⟩)
    all_goals
      refine bodyPost_ret (v := .tuple #[.agg R.1.row, .int .u8 R.2]) ?_ rfl ⟨rfl, ?_⟩
      · have hR := HR.out
        first
          | (simp_all [results, Tryz.results66, go_sem, Ev.Snd.zero, Ev.Snd.row]; done)
          | (simp_all [results, Tryz.results66, go_sem, Ev.Snd.zero, Ev.Snd.row]; (repeat' split) <;> first | omega | (simp_all; done) | (simp_all; omega))
      · repeat (first | exact Below.refl _ _ | refine Below.drew ?_ | refine Below.setCell ?_ (by simp) _ | refine Below.alloc ?_ (by simp; try omega) _)
end
end Go.Proofs.YtahbecinkciahaaGreat
/- Layer 30: run: the due packets are played. -/
namespace Go.Proofs.YtahbecinkciahaaGreat
open Go.RowKit
set_option linter.unusedVariables false
set_option linter.unusedSimpArgs false
attribute [local go_sem ↓] run_min_plain run_max_plain
attribute [local go_sem] setCell_drewN alloc_drewN
section
variable {α : Type} {row : α → List Value} {w : World} {B size : Nat} {A : Option Addr} {l : List α}
theorem RowsAt.take (h : RowsAt w B size row A l) (n : Nat) : RowsAt w B size row A (l.take n) := fun h0 => by
  obtain ⟨b, off, rfl, hb, hc⟩ := h (by simp at h0; omega)
  refine ⟨b, off, rfl, hb, fun i a ha j v hv => hc i a ?_ j v hv⟩
  rw [List.getElem?_take] at ha
  split at ha
  · exact ha
  · cases ha
theorem RowsAt.dropAt {b off : Nat} (h : RowsAt w B size row (some ⟨b, off, none⟩) l) (n : Nat) : RowsAt w B size row (some ⟨b, off + n * size, none⟩) (l.drop n) := fun h0 => by
  obtain ⟨b', off', e, hb, hc⟩ := h (by simp at h0; omega)
  injection e with e
  injection e with e1 e2
  subst e1 e2
  refine ⟨b, off + n * size, rfl, hb, fun i a ha j v hv => ?_⟩
  rw [List.getElem?_drop] at ha
  have := hc (n + i) a ha j v hv
  rw [← this]
  congr 2
  rw [Nat.add_mul]; omega
end
theorem Wts.take {w : World} {B : Nat} {A : Option Addr} {l : List TW} (h : Wts w B A l) (n : Nat) : Wts w B A (l.take n) := ⟨h.1.take n, fun a ha => h.2 a (List.mem_of_mem_take ha)⟩
theorem Wts.dropAt {w : World} {B b off : Nat} {l : List TW} (h : Wts w B (some ⟨b, off, none⟩) l) (n : Nat) : Wts w B (some ⟨b, off + n * 6, none⟩) (l.drop n) := ⟨h.1.dropAt n, fun a ha => h.2 a (List.mem_of_mem_drop ha)⟩
/-- a queue is nil and empty, or lies at an address -/
theorem Wts.form {w : World} {B : Nat} {A : Option Addr} {l : List TW} (h : Wts w B A l) : l = [] ∨ ∃ b off, A = some ⟨b, off, none⟩ := by
  rcases Nat.eq_zero_or_pos l.length with h0 | h0
  · exact .inl (List.eq_nil_of_length_eq_zero h0)
  · obtain ⟨b, off, e, _⟩ := h.1 h0
    exact .inr ⟨b, off, e⟩
theorem Wts.empty {w : World} {B : Nat} {A : Option Addr} : Wts w B A [] := ⟨RowsAt.nil, fun _ h => by cases h⟩
theorem Owns.cap {w : World} {base size n c : Nat} {e : TypeId} {A : Option Addr} {xs : List Value} (h : Owns w base e size A n c xs) : n ≤ c := by
  rcases h.2 with ⟨hv, h0⟩ | ⟨g, cap, cur, hv, _, _, hnc, _⟩
  · injection hv with _ h1 h2
    omega
  · injection hv with _ _ h2
    omega
theorem Owns.capm {w : World} {base size n c : Nat} {e : TypeId} {A : Option Addr} {xs : List Value} (h : Owns w base e size A n c xs) : c ≤ maxLen := by
  rcases h.2 with ⟨hv, h0⟩ | ⟨g, cap, cur, hv, _, _, hnc, hr⟩
  · injection hv with _ h1 h2
    unfold maxLen; omega
  · injection hv with _ _ h2
    have := hr.1
    omega
/-- a queue whose cells lie in blocks from lo to hi -/
structure WtsIn (w : World) (lo hi : Nat) (A : Option Addr) (l : List TW) : Prop where
  rows : Wts w hi A l
  low : 0 < l.length → ∀ b off, A = some ⟨b, off, none⟩ → lo ≤ b
  plow : ∀ a ∈ l, 0 < a.w.m.pl.length → ∀ b off, a.B = some ⟨b, off, none⟩ → lo ≤ b
theorem WtsIn.keep {w w' : World} {lo hi : Nat} {A : Option Addr} {l : List TW} (h : WtsIn w lo hi A l) (hk : ∀ p : Addr, lo ≤ p.block → p.block < hi → w'.cell? p = w.cell? p) : WtsIn w' lo hi A l := by
  refine ⟨⟨fun h0 => ?_, fun a ha h0 => ?_⟩, h.low, h.plow⟩
  · obtain ⟨b, off, rfl, hb, hc⟩ := h.rows.1 h0
    have hlo := h.low h0 b off rfl
    exact ⟨b, off, rfl, hb, fun i a ha j v hv => (hk _ hlo hb).trans (hc i a ha j v hv)⟩
  · obtain ⟨b, off, e, hb, hc⟩ := h.rows.2 a ha h0
    have hlo := h.plow a ha h0 b off e
    exact ⟨b, off, e, hb, fun i hi => (hk _ hlo hb).trans (hc i hi)⟩
theorem WtsIn.more {w : World} {lo hi hi' : Nat} {A : Option Addr} {l : List TW} (h : WtsIn w lo hi A l) (hl : hi ≤ hi') : WtsIn w lo hi' A l := ⟨h.rows.more hl, h.low, h.plow⟩
theorem WtsIn.empty {w : World} {lo hi : Nat} : WtsIn w lo hi none [] := ⟨Wts.nil, fun h => absurd h (by simp), fun _ h => by cases h⟩
theorem WtsIn.less {w : World} {lo lo' hi : Nat} {A : Option Addr} {l : List TW} (h : WtsIn w lo hi A l) (hl : lo' ≤ lo) : WtsIn w lo' hi A l :=
  ⟨h.rows, fun h0 b off e => Nat.le_trans hl (h.low h0 b off e), fun a ha h0 b off e => Nat.le_trans hl (h.plow a ha h0 b off e)⟩
theorem WtsIn.setCell {w : World} {lo hi : Nat} {A : Option Addr} {l : List TW} (h : WtsIn w lo hi A l) {p : Addr} (hp : p.block < lo) (u : Value) : WtsIn (w.setCell p u) lo hi A l :=
  h.keep fun q hq _ => World.cell?_setCell_other w p q u (fun e => by subst e; omega)
theorem WtsIn.below {w w' : World} {lo hi : Nat} {A : Option Addr} {l : List TW} (h : WtsIn w lo hi A l) {B : Nat} (hb : Below B w w') (hB : hi ≤ B) : WtsIn w' lo hi A l := h.keep fun q _ hq => hb.cell (by omega)
theorem QOwn.wtsIn {w : World} {base n c : Nat} {A : Option Addr} {l : List TW} (h : QOwn w base A n c l) : WtsIn w base w.heap.size A l :=
  ⟨h.wts, fun h0 b off e => (h.own.block b (by rw [e]; rfl)).1, h.new⟩
theorem QOwn.setCell {w : World} {base n c : Nat} {A : Option Addr} {l : List TW} (h : QOwn w base A n c l) {p : Addr} (hp : p.block < base) (u : Value) : QOwn (w.setCell p u) base A n c l := by
  refine ⟨h.len, h.own.setCell (fun g hg e => ?_) u, fun a ha h0 => ?_, h.far, h.new⟩
  · have := (h.own.block g hg).1
    omega
  · obtain ⟨b, off, e, hb, hc⟩ := h.pay a ha h0
    have hlo := h.new a ha h0 b off e
    exact ⟨b, off, e, by simpa [World.setCell] using hb, fun i hi => (World.cell?_setCell_other w p _ u (fun e => by subst e; simp at hp; omega)).trans (hc i hi)⟩
theorem QOwn.push {w : World} {base n c : Nat} {A : Option Addr} {l : List TW} (h : QOwn w base A n c l) (o : Obj) : QOwn (w.alloc o) base A n c l := h.below ((Below.refl _ _).alloc (Nat.le_refl _) _)
theorem QOwn.setRow {base n c g : Nat} {A : Option Addr} {l : List TW} (hg : g < base) : ∀ (vs : List Value) (w : World) (i : Nat), QOwn w base A n c l → QOwn (Go.Proofs.YtahbecinkciahaaGreat.setRow g w i vs) base A n c l
  | [], _, _, h => h
  | v :: vs, w, i, h => QOwn.setRow hg vs _ (i + 1) (QOwn.setCell h (by exact hg) v)
theorem WtsIn.setRow {lo hi g : Nat} {A : Option Addr} {l : List TW} (hg : g < lo) : ∀ (vs : List Value) (w : World) (i : Nat), WtsIn w lo hi A l → WtsIn (Go.Proofs.YtahbecinkciahaaGreat.setRow g w i vs) lo hi A l
  | [], _, _, h => h
  | v :: vs, w, i, h => WtsIn.setRow hg vs _ (i + 1) (WtsIn.setCell h (by exact hg) v)
def QueueN (n : Nat) (q : List Jb.Wt) (w : World) (e : Ending) (w' : World) : Prop :=
  ∃ (A' : Option Addr) (c' : Nat) (l' : List TW), e = .returned (.slice A' n c') ∧ l'.map TW.w = q ∧ QOwn w' w.heap.size A' n c' l' ∧ Below w.heap.size w w'
theorem copyQueue_n (A : Option Addr) (l : List TW) (n c : Nat) (w : World) (B : Nat) (hB : B ≤ w.heap.size) (hn : l.length = n) (hl : n ≤ 100000) (hA : Wts w B A l) (hp : ∀ a ∈ l, a.w.m.pl.length ≤ 1000000) (q : List Jb.Wt) (hq : l.map TW.w = q) : Calls Tryz.prog 149 #[.slice A n c] w (QueueN n q w) := by
  refine (copyQueue_any A l n c w hn hl (hA.more hB) hp).mono ?_
  rintro e w' ⟨A', c', l', rfl, h1, h2, h3⟩
  rw [hn] at h2
  exact ⟨A', c', l', by rw [hn], h1.trans hq, h2, h3⟩
/-- what run leaves -/
def RunR (le mo : Int) (on : Bool) (ze fi hi dn sp tr : Int) (q : List Jb.Wt) (la tw pd now : Int) (w : World) (e : Ending) (w' : World) : Prop :=
  ∃ (A1 : Option Addr) (c1 : Nat) (l1 : List TW) (A2 : Option Addr) (c2 : Nat) (l2 : List TW) (B : Nat),
    e = .returned (.tuple #[.agg #[.int .i64 le, .int .i64 mo, .int .i64 now, .bool on, .int .i64 ze, .int .i64 fi, .int .i64 hi, .int .i64 (Jb.maxSq dn (Jb.due now q)), .int .i64 sp, .int .i64 tr, .slice A2 l2.length c2, .int .i64 la, .int .i64 tw, .int .i64 (pd + (Jb.due now q).length)], .slice A1 l1.length c1]) ∧
    l1.map TW.w = Jb.due now q ∧ l2.map TW.w = Jb.left now q ∧ WtsIn w' w.heap.size B A1 l1 ∧ QOwn w' B A2 l2.length c2 l2 ∧ w.heap.size ≤ B ∧ B ≤ w'.heap.size ∧ (l1.length ≤ c1 ∧ c1 ≤ maxLen) ∧ Below w.heap.size w w'
theorem due_take (now : Int) (q : List Jb.Wt) : Jb.due now q = q.take (Jb.due now q).length ∧ Jb.left now q = q.drop (Jb.due now q).length := by
  have h := Jb.due_left now q
  constructor
  · conv => rhs; arg 2; rw [← h]
    rw [List.take_left]
  · conv => rhs; arg 2; rw [← h]
    rw [List.drop_left]
theorem maxSq_snoc (d : Int) (l : List Jb.Wt) (x : Jb.Wt) : Jb.maxSq d (l ++ [x]) = max (Jb.maxSq d l) x.m.sq := by unfold Jb.maxSq; rw [List.foldl_append]; rfl
set_option maxRecDepth 100000 in
set_option maxHeartbeats 12800000 in
theorem run_some (le mo nw : Int) (on : Bool) (ze fi hi dn sp tr : Int) (A : Option Addr) (l : List TW) (n qc : Nat) (la tw pd now : Int) (w : World) (hn : l.length = n) (hl : n ≤ 200) (hcap : n ≤ qc) (hcm : qc ≤ maxLen) (hA : Wts w w.heap.size A l) (hp : ∀ a ∈ l, a.w.m.pl.length ≤ 1000000) (hpd : -9223372036854775808 ≤ pd ∧ pd ≤ 9223372036854775000)
    (d : Nat) (hd : d = (Jb.due now (l.map TW.w)).length) (hdl : d < n) : Calls Tryz.prog 102 #[.agg #[.int .i64 le, .int .i64 mo, .int .i64 nw, .bool on, .int .i64 ze, .int .i64 fi, .int .i64 hi, .int .i64 dn, .int .i64 sp, .int .i64 tr, .slice A n qc, .int .i64 la, .int .i64 tw, .int .i64 pd], .int .i64 now] w (RunR le mo on ze fi hi dn sp tr (l.map TW.w) la tw pd now w) := by
  subst hn
  unfold maxLen at hcm
  obtain ⟨b, off, rfl⟩ : ∃ b off, A = some ⟨b, off, none⟩ := by
    rcases hA.form with e | e
    · subst e; simp at hdl
    · exact e
  have h1 : (0 : Int) ≤ (d : Int) := by omega
  have h2 : (d : Int) ≤ (l.length : Int) := by omega
  have h3 : (d : Int) ≤ (qc : Int) := by omega
  have h4 : ¬qc = d := by omega
  have h5 : (l.length : Int) ≤ (qc : Int) := by omega
  have hR : firstLate now (l.map TW.w) = (d : Int) := by unfold firstLate; rw [← hd, if_neg (by simp; omega)]
  obtain ⟨W0, hW0⟩ : ∃ W0, W0 = ((w.alloc (.cells #[.int .i64 le, .int .i64 mo, .int .i64 nw, .bool on, .int .i64 ze, .int .i64 fi, .int .i64 hi, .int .i64 dn, .int .i64 sp, .int .i64 tr, .slice (some ⟨b, off, none⟩) l.length qc, .int .i64 la, .int .i64 tw, .int .i64 pd] 40)).alloc (.cells #[.int .i64 now] 3)).alloc (.cells #[.int .i64 0, .int .i64 0, .int .i64 0, .bool false, .int .i64 0, .int .i64 0, .int .i64 0, .int .i64 0, .int .i64 0, .int .i64 0, .slice none 0 0, .int .i64 0, .int .i64 0, .int .i64 0] 40) := ⟨_, rfl⟩
  have hU0 : Bel w W0 := by rw [hW0]; exact (((Bel.refl w).push _).push _).push _
  have hB0 : Blk W0 w.heap.size 40 #[.int .i64 le, .int .i64 mo, .int .i64 nw, .bool on, .int .i64 ze, .int .i64 fi, .int .i64 hi, .int .i64 dn, .int .i64 sp, .int .i64 tr, .slice (some ⟨b, off, none⟩) l.length qc, .int .i64 la, .int .i64 tw, .int .i64 pd] := by rw [hW0]; exact ((Blk.new w _ _).push _).push _
  have hB1 : Blk W0 (w.heap.size + 1) 3 #[.int .i64 now] := by rw [hW0]; exact (Blk.new1 w _ _ _).push _
  have hB2 : Blk W0 (w.heap.size + 1 + 1) 40 #[.int .i64 0, .int .i64 0, .int .i64 0, .bool false, .int .i64 0, .int .i64 0, .int .i64 0, .int .i64 0, .int .i64 0, .int .i64 0, .slice none 0 0, .int .i64 0, .int .i64 0, .int .i64 0] := by rw [hW0]; have := Blk.new ((w.alloc (.cells #[.int .i64 le, .int .i64 mo, .int .i64 nw, .bool on, .int .i64 ze, .int .i64 fi, .int .i64 hi, .int .i64 dn, .int .i64 sp, .int .i64 tr, .slice (some ⟨b, off, none⟩) l.length qc, .int .i64 la, .int .i64 tw, .int .i64 pd] 40)).alloc (.cells #[.int .i64 now] 3)) 40 #[.int .i64 0, .int .i64 0, .int .i64 0, .bool false, .int .i64 0, .int .i64 0, .int .i64 0, .int .i64 0, .int .i64 0, .int .i64 0, .slice none 0 0, .int .i64 0, .int .i64 0, .int .i64 0]; rw [size_alloc2] at this; exact this
  have hA0 : Wts W0 W0.heap.size (some ⟨b, off, none⟩) l := (hA.below hU0).more hU0.size
  have k1 := index_any (some ⟨b, off, none⟩) l l.length qc (w.heap.size + 1) now W0 rfl (by omega) hA0 (hB1.at 0 _ rfl) hB1.lt
  rw [hR] at k1
  rw [hW0] at k1
  have K1 := Lib.hid k1
  have HW0 := Lib.hid hW0
  have U0 := Lib.hid hU0
  have BS := Lib.hid hB0
  have BN := Lib.hid hB1
  have BR := Lib.hid hB2
  have HA := Lib.hid hA0
  have HP := Lib.hid hp
  have HD := Lib.hid hd
  clear k1 hW0 hU0 hB0 hB1 hB2 hA0 hp hA hd hR
  go_enter Tryz.func102, Tryz.ntmps102
  go_wp2_with fail
  refine K1.out.mono ?_
  rw [← HW0.out]
  rintro e w1 ⟨rfl, hb1⟩
  have U1 := Lib.hid (U0.out.later hb1)
  have BS1 := Lib.hid (BS.out.later hb1)
  have BN1 := Lib.hid (BN.out.later hb1)
  have BR1 := Lib.hid (BR.out.later hb1)
  have HA1 := Lib.hid (HA.out.later hb1)
  have g10 := BS1.out.at 10 _ rfl
  clear hb1 K1 HW0 U0 BS BN BR HA
  have HQ := Lib.hid (due_take now (l.map TW.w))
  rw [← HD.out] at HQ
  have HPT := Lib.hid (fun (a : TW) (ha : a ∈ l.take d) => HP.out a (List.mem_of_mem_take ha))
  have HPD := Lib.hid (fun (a : TW) (ha : a ∈ l.drop d) => HP.out a (List.mem_of_mem_drop ha))
  have k2 := Lib.hid (copyQueue_n (some ⟨b, off, none⟩) (l.take d) d d w1 w1.heap.size (Nat.le_refl _) (by simp; omega) (by omega) (HA1.out.take d) HPT.out (Jb.due now (l.map TW.w)) (by rw [HQ.out.1, List.map_take]))
  go_wp2_with fail
  refine k2.out.mono ?_
  rintro e w2 ⟨A1, c1, l1, rfl, hm1, hq1, hb2⟩
  have HM1 := Lib.hid hm1
  have Q1 := Lib.hid hq1.wtsIn
  have HL1 := Lib.hid hq1.len
  have HCA : Hid (l1.length ≤ c1 ∧ c1 ≤ maxLen) := Lib.hid ⟨by rw [hq1.len]; exact hq1.own.cap, Owns.capm hq1.own⟩
  have U2 := Lib.hid (U1.out.later hb2)
  have BS2 := Lib.hid (BS1.out.later hb2)
  have BN2 := Lib.hid (BN1.out.later hb2)
  have BR2 := Lib.hid (BR1.out.later hb2)
  have HA2 := Lib.hid (HA1.out.later hb2)
  have hs1 := BR1.out.lt
  have hs2 := hb2.size
  have k3 := Lib.hid (copyQueue_n (some ⟨b, off + d * 6, none⟩) (l.drop d) (l.length - d) (qc - d) w2 w2.heap.size (Nat.le_refl _) (by simp) (by omega) (HA2.out.dropAt d) HPD.out (Jb.left now (l.map TW.w)) (by rw [HQ.out.2, List.map_drop]))
  clear hb2 hm1 hq1 U1 BS1 BN1 BR1 HA1 k2
  clear g10
  have g10 := BS2.out.at 10 _ rfl
  go_wp2_with fail
  refine k3.out.mono ?_
  rintro e w3 ⟨A2, c2, l2, rfl, hm2, hq2, hb3⟩
  have HM2 := Lib.hid hm2
  have Q2 := Lib.hid hq2
  have Q1' := Lib.hid (Q1.out.below hb3 (Nat.le_refl _))
  have U3 := Lib.hid (U2.out.later hb3)
  have BS3 := Lib.hid (BS2.out.later hb3)
  have BN3 := Lib.hid (BN2.out.later hb3)
  have BR3 := Lib.hid (BR2.out.later hb3)
  have hs3 := hb3.size
  clear hb3 hm2 hq2 U2 BS2 BN2 BR2 HA2 k3 Q1 g10
  have f13 := BS3.out.at 13 _ rfl
  have f10 := BS3.out.at 10 _ rfl
  have fz := BS3.out.frozen
  go_wp2_with fail
  go_loopg [38] d (fun gk i wr => ∃ k : Nat, gk + k = d ∧ i = .int .i64 k ∧ Hid (Blk wr w.heap.size 40 #[.int .i64 le, .int .i64 mo, .int .i64 nw, .bool on, .int .i64 ze, .int .i64 fi, .int .i64 hi, .int .i64 (Jb.maxSq dn ((Jb.due now (l.map TW.w)).take k)), .int .i64 sp, .int .i64 tr, .slice A2 (l.length - d) c2, .int .i64 la, .int .i64 tw, .int .i64 (pd + d)]) ∧ Hid (Blk wr (w.heap.size + 1) 3 #[.int .i64 now]) ∧ Hid (Blk wr (w.heap.size + 1 + 1) 40 #[.int .i64 0, .int .i64 0, .int .i64 0, .bool false, .int .i64 0, .int .i64 0, .int .i64 0, .int .i64 0, .int .i64 0, .int .i64 0, .slice none 0 0, .int .i64 0, .int .i64 0, .int .i64 0]) ∧ Hid (WtsIn wr w1.heap.size w2.heap.size A1 l1) ∧ Hid (QOwn wr w2.heap.size A2 (l.length - d) c2 l2) ∧ Hid (Bel w wr) ∧ Hid (w2.heap.size ≤ wr.heap.size))
  case atStart =>
    refine ⟨0, rfl, rfl, Lib.hid ?_, Lib.hid ?_, Lib.hid ?_, Lib.hid ?_, Lib.hid ?_, Lib.hid ?_, Lib.hid ?_⟩
    · exact (BS3.out.set_ 10 (.slice A2 (l.length - d) c2)).set_ 13 (.int .i64 (pd + d))
    · exact (BN3.out.far (by simp) _).far (by simp) _
    · exact (BR3.out.far (by simp; omega) _).far (by simp; omega) _
    · exact (Q1'.out.setCell (by simp; omega) _).setCell (by simp; omega) _
    · exact (Q2.out.setCell (by simp; omega) _).setCell (by simp; omega) _
    · exact below_set_old (below_set_old U3.out (Nat.le_refl _) _) (Nat.le_refl _) _
    · simpa [World.setCell] using hs3
  case round =>
    obtain ⟨k, hgk, rfl, BSr, BNr, BRr, W1r, Q2r, Ur, HSr⟩ := hrel
    have hi0 : (0 : Int) ≤ (k : Int) := by omega
    have hz0 := BSr.out.lt
    have fzr := BSr.out.frozen
    by_cases hk : k < d
    rotate_left
    · obtain rfl : k = d := by omega
      have hi1 : (k : Int) ≤ (k : Int) := Int.le_refl _
      have p0 := BSr.out.at 0 _ rfl
      have p1 := BSr.out.at 1 _ rfl
      have p2 := BSr.out.at 2 _ rfl
      have p3 := BSr.out.at 3 _ rfl
      have p4 := BSr.out.at 4 _ rfl
      have p5 := BSr.out.at 5 _ rfl
      have p6 := BSr.out.at 6 _ rfl
      have p7 := BSr.out.at 7 _ rfl
      have p8 := BSr.out.at 8 _ rfl
      have p9 := BSr.out.at 9 _ rfl
      have p10 := BSr.out.at 10 _ rfl
      have p11 := BSr.out.at 11 _ rfl
      have p12 := BSr.out.at 12 _ rfl
      have p13 := BSr.out.at 13 _ rfl
      have r0 := BRr.out.at 0 _ rfl
      have r1 := BRr.out.at 1 _ rfl
      have r2 := BRr.out.at 2 _ rfl
      have r3 := BRr.out.at 3 _ rfl
      have r4 := BRr.out.at 4 _ rfl
      have r5 := BRr.out.at 5 _ rfl
      have r6 := BRr.out.at 6 _ rfl
      have r7 := BRr.out.at 7 _ rfl
      have r8 := BRr.out.at 8 _ rfl
      have r9 := BRr.out.at 9 _ rfl
      have r10 := BRr.out.at 10 _ rfl
      have r11 := BRr.out.at 11 _ rfl
      have r12 := BRr.out.at 12 _ rfl
      have r13 := BRr.out.at 13 _ rfl
      have n0 := BNr.out.at 0 _ rfl
      have rfz := BRr.out.frozen
      go_wp2_with fail
      have htk : (Jb.due now (l.map TW.w)).take k = Jb.due now (l.map TW.w) := List.take_of_length_le (Nat.le_of_eq HD.out.symm)
      rw [htk]
      have BF := Blk.setRow (BRr.out.far (p := ⟨w.heap.size, 2, none⟩) (by simp; omega) (.int .i64 now)) [.int .i64 le, .int .i64 mo, .int .i64 now, .bool on, .int .i64 ze, .int .i64 fi, .int .i64 hi, .int .i64 (Jb.maxSq dn (Jb.due now (l.map TW.w))), .int .i64 sp, .int .i64 tr, .slice A2 (l.length - k) c2, .int .i64 la, .int .i64 tw, .int .i64 (pd + k)] rfl
      have QF := QOwn.setRow (g := w.heap.size + 1 + 1) (by omega) [.int .i64 le, .int .i64 mo, .int .i64 now, .bool on, .int .i64 ze, .int .i64 fi, .int .i64 hi, .int .i64 (Jb.maxSq dn (Jb.due now (l.map TW.w))), .int .i64 sp, .int .i64 tr, .slice A2 (l.length - k) c2, .int .i64 la, .int .i64 tw, .int .i64 (pd + k)] _ 0 (Q2r.out.setCell (p := ⟨w.heap.size, 2, none⟩) (by simp; omega) (.int .i64 now))
      have WF := WtsIn.setRow (g := w.heap.size + 1 + 1) (by omega) [.int .i64 le, .int .i64 mo, .int .i64 now, .bool on, .int .i64 ze, .int .i64 fi, .int .i64 hi, .int .i64 (Jb.maxSq dn (Jb.due now (l.map TW.w))), .int .i64 sp, .int .i64 tr, .slice A2 (l.length - k) c2, .int .i64 la, .int .i64 tw, .int .i64 (pd + k)] _ 0 (W1r.out.setCell (p := ⟨w.heap.size, 2, none⟩) (by simp; omega) (.int .i64 now))
      have UF := below_setRow (g := w.heap.size + 1 + 1) (by omega) [.int .i64 le, .int .i64 mo, .int .i64 now, .bool on, .int .i64 ze, .int .i64 fi, .int .i64 hi, .int .i64 (Jb.maxSq dn (Jb.due now (l.map TW.w))), .int .i64 sp, .int .i64 tr, .slice A2 (l.length - k) c2, .int .i64 la, .int .i64 tw, .int .i64 (pd + k)] _ 0 (below_set_old (p := ⟨w.heap.size, 2, none⟩) Ur.out (Nat.le_refl _) (.int .i64 now))
      have SF := setRow_size (w.heap.size + 1 + 1) [.int .i64 le, .int .i64 mo, .int .i64 now, .bool on, .int .i64 ze, .int .i64 fi, .int .i64 hi, .int .i64 (Jb.maxSq dn (Jb.due now (l.map TW.w))), .int .i64 sp, .int .i64 tr, .slice A2 (l.length - k) c2, .int .i64 la, .int .i64 tw, .int .i64 (pd + k)] (wr.setCell ⟨w.heap.size, 2, none⟩ (.int .i64 now)) 0
      obtain ⟨W, hW⟩ : ∃ W, W = setRow (w.heap.size + 1 + 1) (wr.setCell ⟨w.heap.size, 2, none⟩ (.int .i64 now)) 0 [.int .i64 le, .int .i64 mo, .int .i64 now, .bool on, .int .i64 ze, .int .i64 fi, .int .i64 hi, .int .i64 (Jb.maxSq dn (Jb.due now (l.map TW.w))), .int .i64 sp, .int .i64 tr, .slice A2 (l.length - k) c2, .int .i64 la, .int .i64 tw, .int .i64 (pd + k)] := ⟨_, rfl⟩
      rw [← hW] at BF QF WF UF SF
      simp only [setRow, Nat.zero_add, Nat.reduceAdd] at hW
      rw [← hW]
      have hl2 : l2.length = l.length - k := Q2r.out.len
      have hl1 : l1.length = k := HL1.out
      rw [← hl2] at BF QF
      exact bodyPost_ret (v := .tuple #[.agg (List.toArray [.int .i64 le, .int .i64 mo, .int .i64 now, .bool on, .int .i64 ze, .int .i64 fi, .int .i64 hi, .int .i64 (Jb.maxSq dn (Jb.due now (l.map TW.w))), .int .i64 sp, .int .i64 tr, .slice A2 l2.length c2, .int .i64 la, .int .i64 tw, .int .i64 (pd + k)]), .slice A1 k c1]) (res_ct Tryz.results102 rfl (run_loadVar_row (P := Tryz.prog) _ _ _ _ _ _ _ BF Tryz.underlying40 rfl (by kernel_rfl)) rfl) rfl ⟨A1, c1, l1, A2, c2, l2, w2.heap.size, by rw [hl1, ← HD.out], HM1.out, HM2.out, WF.less (by omega), QF, by omega, by have := HSr.out; rw [SF]; simpa [World.setCell] using this, HCA.out, UF⟩
    have hi1 : (k : Int) < (d : Int) := by omega
    have hl1 : l1.length = d := HL1.out
    obtain ⟨a, ha⟩ : ∃ a, l1[k]? = some a := ⟨_, List.getElem?_eq_getElem (by omega)⟩
    obtain ⟨b9, off9, rfl, hbB, e0, e1, e2, e3, e4, e5⟩ := rowsW W1r.out.rows.1 ha
    have hm : (Jb.due now (l.map TW.w))[k]? = some a.w := by rw [← HM1.out, List.getElem?_map, ha]; rfl
    have HM := Lib.hid hm
    obtain ⟨⟨at0, ⟨sq0, ti0, mk0, ty0, pl0⟩⟩, B0, c0⟩ := a
    simp only at e0 e1 e2 e3 e4 e5 HM
    have hbw : b9 < wr.heap.size := Nat.lt_of_lt_of_le hbB HSr.out
    have p7 := BSr.out.at 7 _ rfl
    clear ha hm hl1
    go_wp2_with fail
    go_roundg (gk - 1)
    case measure => omega
    case rel =>
      refine ⟨k + 1, by omega, by go_num, Lib.hid ?_, Lib.hid ?_, Lib.hid ?_, Lib.hid ?_, Lib.hid ?_, Lib.hid ?_, Lib.hid ?_⟩
      · rw [List.take_add_one, HM.out]
        simp only [Option.toList_some]
        rw [maxSq_snoc]
        exact (BSr.out.set_ 7 _).push _
      · exact (BNr.out.far (by simp) _).push _
      · exact (BRr.out.far (by simp; omega) _).push _
      · exact (W1r.out.setCell (by simp; omega) _).below ((Below.refl _ _).alloc (Nat.le_refl _) _) (by have := HSr.out; simpa [World.setCell] using this)
      · exact (Q2r.out.setCell (by simp; omega) _).push _
      · exact Bel.push (below_set_old Ur.out (Nat.le_refl _) _) _
      · have := HSr.out; simp [World.setCell]; omega
end Go.Proofs.YtahbecinkciahaaGreat
/- Layer 30: run, where all packets are played. -/
namespace Go.Proofs.YtahbecinkciahaaGreat
open Go.RowKit
set_option linter.unusedVariables false
set_option linter.unusedSimpArgs false
attribute [local go_sem ↓] run_min_plain run_max_plain
attribute [local go_sem] setCell_drewN alloc_drewN
set_option maxRecDepth 100000 in
set_option maxHeartbeats 12800000 in
theorem run_full (le mo nw : Int) (on : Bool) (ze fi hi dn sp tr : Int) (A : Option Addr) (l : List TW) (n qc : Nat) (la tw pd now : Int) (w : World) (hn : l.length = n) (hl : n ≤ 200) (hcap : n ≤ qc) (hcm : qc ≤ maxLen) (hA : Wts w w.heap.size A l) (hp : ∀ a ∈ l, a.w.m.pl.length ≤ 1000000) (hpd : -9223372036854775808 ≤ pd ∧ pd ≤ 9223372036854775000)
    (hd : n = (Jb.due now (l.map TW.w)).length) (b off : Nat) (hAe : A = some ⟨b, off, none⟩) : Calls Tryz.prog 102 #[.agg #[.int .i64 le, .int .i64 mo, .int .i64 nw, .bool on, .int .i64 ze, .int .i64 fi, .int .i64 hi, .int .i64 dn, .int .i64 sp, .int .i64 tr, .slice A n qc, .int .i64 la, .int .i64 tw, .int .i64 pd], .int .i64 now] w (RunR le mo on ze fi hi dn sp tr (l.map TW.w) la tw pd now w) := by
  subst hn
  unfold maxLen at hcm
  subst hAe
  have h5 : (l.length : Int) ≤ (qc : Int) := by omega
  have hR : firstLate now (l.map TW.w) = -1 := by unfold firstLate; rw [← hd, if_pos (by simp)]
  obtain ⟨W0, hW0⟩ : ∃ W0, W0 = ((w.alloc (.cells #[.int .i64 le, .int .i64 mo, .int .i64 nw, .bool on, .int .i64 ze, .int .i64 fi, .int .i64 hi, .int .i64 dn, .int .i64 sp, .int .i64 tr, .slice (some ⟨b, off, none⟩) l.length qc, .int .i64 la, .int .i64 tw, .int .i64 pd] 40)).alloc (.cells #[.int .i64 now] 3)).alloc (.cells #[.int .i64 0, .int .i64 0, .int .i64 0, .bool false, .int .i64 0, .int .i64 0, .int .i64 0, .int .i64 0, .int .i64 0, .int .i64 0, .slice none 0 0, .int .i64 0, .int .i64 0, .int .i64 0] 40) := ⟨_, rfl⟩
  have hU0 : Bel w W0 := by rw [hW0]; exact (((Bel.refl w).push _).push _).push _
  have hB0 : Blk W0 w.heap.size 40 #[.int .i64 le, .int .i64 mo, .int .i64 nw, .bool on, .int .i64 ze, .int .i64 fi, .int .i64 hi, .int .i64 dn, .int .i64 sp, .int .i64 tr, .slice (some ⟨b, off, none⟩) l.length qc, .int .i64 la, .int .i64 tw, .int .i64 pd] := by rw [hW0]; exact ((Blk.new w _ _).push _).push _
  have hB1 : Blk W0 (w.heap.size + 1) 3 #[.int .i64 now] := by rw [hW0]; exact (Blk.new1 w _ _ _).push _
  have hB2 : Blk W0 (w.heap.size + 1 + 1) 40 #[.int .i64 0, .int .i64 0, .int .i64 0, .bool false, .int .i64 0, .int .i64 0, .int .i64 0, .int .i64 0, .int .i64 0, .int .i64 0, .slice none 0 0, .int .i64 0, .int .i64 0, .int .i64 0] := by rw [hW0]; have := Blk.new ((w.alloc (.cells #[.int .i64 le, .int .i64 mo, .int .i64 nw, .bool on, .int .i64 ze, .int .i64 fi, .int .i64 hi, .int .i64 dn, .int .i64 sp, .int .i64 tr, .slice (some ⟨b, off, none⟩) l.length qc, .int .i64 la, .int .i64 tw, .int .i64 pd] 40)).alloc (.cells #[.int .i64 now] 3)) 40 #[.int .i64 0, .int .i64 0, .int .i64 0, .bool false, .int .i64 0, .int .i64 0, .int .i64 0, .int .i64 0, .int .i64 0, .int .i64 0, .slice none 0 0, .int .i64 0, .int .i64 0, .int .i64 0]; rw [size_alloc2] at this; exact this
  have hA0 : Wts W0 W0.heap.size (some ⟨b, off, none⟩) l := (hA.below hU0).more hU0.size
  have k1 := index_any (some ⟨b, off, none⟩) l l.length qc (w.heap.size + 1) now W0 rfl (by omega) hA0 (hB1.at 0 _ rfl) hB1.lt
  rw [hR] at k1
  rw [hW0] at k1
  have K1 := Lib.hid k1
  have HW0 := Lib.hid hW0
  have U0 := Lib.hid hU0
  have BS := Lib.hid hB0
  have BN := Lib.hid hB1
  have BR := Lib.hid hB2
  have HA := Lib.hid hA0
  have HP := Lib.hid hp
  have HD := Lib.hid hd
  clear k1 hW0 hU0 hB0 hB1 hB2 hA0 hp hA hd hR
  by_cases hq : qc = l.length
  · subst hq
    go_enter Tryz.func102, Tryz.ntmps102
    go_wp2_with fail
    refine K1.out.mono ?_
    rw [← HW0.out]
    rintro e w1 ⟨rfl, hb1⟩
    have U1 := Lib.hid (U0.out.later hb1)
    have BS1 := Lib.hid (BS.out.later hb1)
    have BN1 := Lib.hid (BN.out.later hb1)
    have BR1 := Lib.hid (BR.out.later hb1)
    have HA1 := Lib.hid (HA.out.later hb1)
    have g10 := BS1.out.at 10 _ rfl
    clear hb1 K1 HW0 U0 BS BN BR HA
    have HQ := Lib.hid (due_take now (l.map TW.w))
    rw [← HD.out] at HQ
    have HPT := Lib.hid (fun (a : TW) (ha : a ∈ l.take l.length) => HP.out a (List.mem_of_mem_take ha))
    have HPD := Lib.hid (fun (a : TW) (ha : a ∈ l.drop l.length) => HP.out a (List.mem_of_mem_drop ha))
    have k2 := Lib.hid (copyQueue_n (some ⟨b, off, none⟩) (l.take l.length) l.length l.length w1 w1.heap.size (Nat.le_refl _) (by simp) (by omega) (HA1.out.take l.length) HPT.out (Jb.due now (l.map TW.w)) (by rw [HQ.out.1, List.map_take]))
    go_wp2_with fail
    refine k2.out.mono ?_
    rintro e w2 ⟨A1, c1, l1, rfl, hm1, hq1, hb2⟩
    have HM1 := Lib.hid hm1
    have Q1 := Lib.hid hq1.wtsIn
    have HL1 := Lib.hid hq1.len
    have HCA : Hid (l1.length ≤ c1 ∧ c1 ≤ maxLen) := Lib.hid ⟨by rw [hq1.len]; exact hq1.own.cap, Owns.capm hq1.own⟩
    have U2 := Lib.hid (U1.out.later hb2)
    have BS2 := Lib.hid (BS1.out.later hb2)
    have BN2 := Lib.hid (BN1.out.later hb2)
    have BR2 := Lib.hid (BR1.out.later hb2)
    have HA2 := Lib.hid (HA1.out.later hb2)
    have hs1 := BR1.out.lt
    have hs2 := hb2.size
    have k3 := Lib.hid fun (A9 : Option Addr) (c9 : Nat) => (copyQueue_n A9 [] 0 c9 w2 w2.heap.size (Nat.le_refl _) rfl (by omega) Wts.empty (fun _ h => by cases h) (Jb.left now (l.map TW.w)) (by rw [HQ.out.2, List.drop_of_length_le (by simp)]; rfl))
    clear hb2 hm1 hq1 U1 BS1 BN1 BR1 HA1 k2
    clear g10
    have g10 := BS2.out.at 10 _ rfl
    go_wp2_with fail
    refine (k3.out _ _).mono ?_
    rintro e w3 ⟨A2, c2, l2, rfl, hm2, hq2, hb3⟩
    have HM2 := Lib.hid hm2
    have Q2 := Lib.hid hq2
    have Q1' := Lib.hid (Q1.out.below hb3 (Nat.le_refl _))
    have U3 := Lib.hid (U2.out.later hb3)
    have BS3 := Lib.hid (BS2.out.later hb3)
    have BN3 := Lib.hid (BN2.out.later hb3)
    have BR3 := Lib.hid (BR2.out.later hb3)
    have hs3 := hb3.size
    clear hb3 hm2 hq2 U2 BS2 BN2 BR2 HA2 k3 Q1 g10
    have f13 := BS3.out.at 13 _ rfl
    have f10 := BS3.out.at 10 _ rfl
    have fz := BS3.out.frozen
    go_wp2_with fail
    go_loopg [38] l.length (fun gk i wr => ∃ k : Nat, gk + k = l.length ∧ i = .int .i64 k ∧ Hid (Blk wr w.heap.size 40 #[.int .i64 le, .int .i64 mo, .int .i64 nw, .bool on, .int .i64 ze, .int .i64 fi, .int .i64 hi, .int .i64 (Jb.maxSq dn ((Jb.due now (l.map TW.w)).take k)), .int .i64 sp, .int .i64 tr, .slice A2 0 c2, .int .i64 la, .int .i64 tw, .int .i64 (pd + l.length)]) ∧ Hid (Blk wr (w.heap.size + 1) 3 #[.int .i64 now]) ∧ Hid (Blk wr (w.heap.size + 1 + 1) 40 #[.int .i64 0, .int .i64 0, .int .i64 0, .bool false, .int .i64 0, .int .i64 0, .int .i64 0, .int .i64 0, .int .i64 0, .int .i64 0, .slice none 0 0, .int .i64 0, .int .i64 0, .int .i64 0]) ∧ Hid (WtsIn wr w1.heap.size w2.heap.size A1 l1) ∧ Hid (QOwn wr w2.heap.size A2 0 c2 l2) ∧ Hid (Bel w wr) ∧ Hid (w2.heap.size ≤ wr.heap.size))
    case atStart =>
      refine ⟨0, rfl, rfl, Lib.hid ?_, Lib.hid ?_, Lib.hid ?_, Lib.hid ?_, Lib.hid ?_, Lib.hid ?_, Lib.hid ?_⟩
      · exact (BS3.out.set_ 10 (.slice A2 0 c2)).set_ 13 (.int .i64 (pd + l.length))
      · exact (BN3.out.far (by simp) _).far (by simp) _
      · exact (BR3.out.far (by simp; omega) _).far (by simp; omega) _
      · exact (Q1'.out.setCell (by simp; omega) _).setCell (by simp; omega) _
      · exact (Q2.out.setCell (by simp; omega) _).setCell (by simp; omega) _
      · exact below_set_old (below_set_old U3.out (Nat.le_refl _) _) (Nat.le_refl _) _
      · simpa [World.setCell] using hs3
    case round =>
      obtain ⟨k, hgk, rfl, BSr, BNr, BRr, W1r, Q2r, Ur, HSr⟩ := hrel
      have hi0 : (0 : Int) ≤ (k : Int) := by omega
      have hz0 := BSr.out.lt
      have fzr := BSr.out.frozen
      by_cases hk : k < l.length
      rotate_left
      · obtain rfl : k = l.length := by omega
        have hi1 : (l.length : Int) ≤ (l.length : Int) := Int.le_refl _
        have p0 := BSr.out.at 0 _ rfl
        have p1 := BSr.out.at 1 _ rfl
        have p2 := BSr.out.at 2 _ rfl
        have p3 := BSr.out.at 3 _ rfl
        have p4 := BSr.out.at 4 _ rfl
        have p5 := BSr.out.at 5 _ rfl
        have p6 := BSr.out.at 6 _ rfl
        have p7 := BSr.out.at 7 _ rfl
        have p8 := BSr.out.at 8 _ rfl
        have p9 := BSr.out.at 9 _ rfl
        have p10 := BSr.out.at 10 _ rfl
        have p11 := BSr.out.at 11 _ rfl
        have p12 := BSr.out.at 12 _ rfl
        have p13 := BSr.out.at 13 _ rfl
        have r0 := BRr.out.at 0 _ rfl
        have r1 := BRr.out.at 1 _ rfl
        have r2 := BRr.out.at 2 _ rfl
        have r3 := BRr.out.at 3 _ rfl
        have r4 := BRr.out.at 4 _ rfl
        have r5 := BRr.out.at 5 _ rfl
        have r6 := BRr.out.at 6 _ rfl
        have r7 := BRr.out.at 7 _ rfl
        have r8 := BRr.out.at 8 _ rfl
        have r9 := BRr.out.at 9 _ rfl
        have r10 := BRr.out.at 10 _ rfl
        have r11 := BRr.out.at 11 _ rfl
        have r12 := BRr.out.at 12 _ rfl
        have r13 := BRr.out.at 13 _ rfl
        have n0 := BNr.out.at 0 _ rfl
        have rfz := BRr.out.frozen
        go_wp2_with fail
        have htk : (Jb.due now (l.map TW.w)).take l.length = Jb.due now (l.map TW.w) := List.take_of_length_le (Nat.le_of_eq HD.out.symm)
        rw [htk]
        have BF := Blk.setRow (BRr.out.far (p := ⟨w.heap.size, 2, none⟩) (by simp; omega) (.int .i64 now)) [.int .i64 le, .int .i64 mo, .int .i64 now, .bool on, .int .i64 ze, .int .i64 fi, .int .i64 hi, .int .i64 (Jb.maxSq dn (Jb.due now (l.map TW.w))), .int .i64 sp, .int .i64 tr, .slice A2 0 c2, .int .i64 la, .int .i64 tw, .int .i64 (pd + l.length)] rfl
        have QF := QOwn.setRow (g := w.heap.size + 1 + 1) (by omega) [.int .i64 le, .int .i64 mo, .int .i64 now, .bool on, .int .i64 ze, .int .i64 fi, .int .i64 hi, .int .i64 (Jb.maxSq dn (Jb.due now (l.map TW.w))), .int .i64 sp, .int .i64 tr, .slice A2 0 c2, .int .i64 la, .int .i64 tw, .int .i64 (pd + l.length)] _ 0 (Q2r.out.setCell (p := ⟨w.heap.size, 2, none⟩) (by simp; omega) (.int .i64 now))
        have WF := WtsIn.setRow (g := w.heap.size + 1 + 1) (by omega) [.int .i64 le, .int .i64 mo, .int .i64 now, .bool on, .int .i64 ze, .int .i64 fi, .int .i64 hi, .int .i64 (Jb.maxSq dn (Jb.due now (l.map TW.w))), .int .i64 sp, .int .i64 tr, .slice A2 0 c2, .int .i64 la, .int .i64 tw, .int .i64 (pd + l.length)] _ 0 (W1r.out.setCell (p := ⟨w.heap.size, 2, none⟩) (by simp; omega) (.int .i64 now))
        have UF := below_setRow (g := w.heap.size + 1 + 1) (by omega) [.int .i64 le, .int .i64 mo, .int .i64 now, .bool on, .int .i64 ze, .int .i64 fi, .int .i64 hi, .int .i64 (Jb.maxSq dn (Jb.due now (l.map TW.w))), .int .i64 sp, .int .i64 tr, .slice A2 0 c2, .int .i64 la, .int .i64 tw, .int .i64 (pd + l.length)] _ 0 (below_set_old (p := ⟨w.heap.size, 2, none⟩) Ur.out (Nat.le_refl _) (.int .i64 now))
        have SF := setRow_size (w.heap.size + 1 + 1) [.int .i64 le, .int .i64 mo, .int .i64 now, .bool on, .int .i64 ze, .int .i64 fi, .int .i64 hi, .int .i64 (Jb.maxSq dn (Jb.due now (l.map TW.w))), .int .i64 sp, .int .i64 tr, .slice A2 0 c2, .int .i64 la, .int .i64 tw, .int .i64 (pd + l.length)] (wr.setCell ⟨w.heap.size, 2, none⟩ (.int .i64 now)) 0
        obtain ⟨W, hW⟩ : ∃ W, W = setRow (w.heap.size + 1 + 1) (wr.setCell ⟨w.heap.size, 2, none⟩ (.int .i64 now)) 0 [.int .i64 le, .int .i64 mo, .int .i64 now, .bool on, .int .i64 ze, .int .i64 fi, .int .i64 hi, .int .i64 (Jb.maxSq dn (Jb.due now (l.map TW.w))), .int .i64 sp, .int .i64 tr, .slice A2 0 c2, .int .i64 la, .int .i64 tw, .int .i64 (pd + l.length)] := ⟨_, rfl⟩
        rw [← hW] at BF QF WF UF SF
        simp only [setRow, Nat.zero_add, Nat.reduceAdd] at hW
        rw [← hW]
        have hl2 : l2.length = 0 := Q2r.out.len
        have hl1 : l1.length = l.length := HL1.out
        rw [← hl2] at BF QF
        exact bodyPost_ret (v := .tuple #[.agg (List.toArray [.int .i64 le, .int .i64 mo, .int .i64 now, .bool on, .int .i64 ze, .int .i64 fi, .int .i64 hi, .int .i64 (Jb.maxSq dn (Jb.due now (l.map TW.w))), .int .i64 sp, .int .i64 tr, .slice A2 l2.length c2, .int .i64 la, .int .i64 tw, .int .i64 (pd + l.length)]), .slice A1 l.length c1]) (res_ct Tryz.results102 rfl (run_loadVar_row (P := Tryz.prog) _ _ _ _ _ _ _ BF Tryz.underlying40 rfl (by kernel_rfl)) rfl) rfl ⟨A1, c1, l1, A2, c2, l2, w2.heap.size, by rw [hl1, ← HD.out], HM1.out, HM2.out, WF.less (by omega), QF, by omega, by have := HSr.out; rw [SF]; simpa [World.setCell] using this, HCA.out, UF⟩
      have hi1 : (k : Int) < (l.length : Int) := by omega
      have hl1 : l1.length = l.length := HL1.out
      obtain ⟨a, ha⟩ : ∃ a, l1[k]? = some a := ⟨_, List.getElem?_eq_getElem (by omega)⟩
      obtain ⟨b9, off9, rfl, hbB, e0, e1, e2, e3, e4, e5⟩ := rowsW W1r.out.rows.1 ha
      have hm : (Jb.due now (l.map TW.w))[k]? = some a.w := by rw [← HM1.out, List.getElem?_map, ha]; rfl
      have HM := Lib.hid hm
      obtain ⟨⟨at0, ⟨sq0, ti0, mk0, ty0, pl0⟩⟩, B0, c0⟩ := a
      simp only at e0 e1 e2 e3 e4 e5 HM
      have hbw : b9 < wr.heap.size := Nat.lt_of_lt_of_le hbB HSr.out
      have p7 := BSr.out.at 7 _ rfl
      clear ha hm hl1
      go_wp2_with fail
      go_roundg (gk - 1)
      case measure => omega
      case rel =>
        refine ⟨k + 1, by omega, by go_num, Lib.hid ?_, Lib.hid ?_, Lib.hid ?_, Lib.hid ?_, Lib.hid ?_, Lib.hid ?_, Lib.hid ?_⟩
        · rw [List.take_add_one, HM.out]
          simp only [Option.toList_some]
          rw [maxSq_snoc]
          exact (BSr.out.set_ 7 _).push _
        · exact (BNr.out.far (by simp) _).push _
        · exact (BRr.out.far (by simp; omega) _).push _
        · exact (W1r.out.setCell (by simp; omega) _).below ((Below.refl _ _).alloc (Nat.le_refl _) _) (by have := HSr.out; simpa [World.setCell] using this)
        · exact (Q2r.out.setCell (by simp; omega) _).push _
        · exact Bel.push (below_set_old Ur.out (Nat.le_refl _) _) _
        · have := HSr.out; simp [World.setCell]; omega
  go_enter Tryz.func102, Tryz.ntmps102
  go_wp2_with fail
  refine K1.out.mono ?_
  rw [← HW0.out]
  rintro e w1 ⟨rfl, hb1⟩
  have U1 := Lib.hid (U0.out.later hb1)
  have BS1 := Lib.hid (BS.out.later hb1)
  have BN1 := Lib.hid (BN.out.later hb1)
  have BR1 := Lib.hid (BR.out.later hb1)
  have HA1 := Lib.hid (HA.out.later hb1)
  have g10 := BS1.out.at 10 _ rfl
  clear hb1 K1 HW0 U0 BS BN BR HA
  have HQ := Lib.hid (due_take now (l.map TW.w))
  rw [← HD.out] at HQ
  have HPT := Lib.hid (fun (a : TW) (ha : a ∈ l.take l.length) => HP.out a (List.mem_of_mem_take ha))
  have HPD := Lib.hid (fun (a : TW) (ha : a ∈ l.drop l.length) => HP.out a (List.mem_of_mem_drop ha))
  have k2 := Lib.hid (copyQueue_n (some ⟨b, off, none⟩) (l.take l.length) l.length l.length w1 w1.heap.size (Nat.le_refl _) (by simp) (by omega) (HA1.out.take l.length) HPT.out (Jb.due now (l.map TW.w)) (by rw [HQ.out.1, List.map_take]))
  go_wp2_with fail
  refine k2.out.mono ?_
  rintro e w2 ⟨A1, c1, l1, rfl, hm1, hq1, hb2⟩
  have HM1 := Lib.hid hm1
  have Q1 := Lib.hid hq1.wtsIn
  have HL1 := Lib.hid hq1.len
  have HCA : Hid (l1.length ≤ c1 ∧ c1 ≤ maxLen) := Lib.hid ⟨by rw [hq1.len]; exact hq1.own.cap, Owns.capm hq1.own⟩
  have U2 := Lib.hid (U1.out.later hb2)
  have BS2 := Lib.hid (BS1.out.later hb2)
  have BN2 := Lib.hid (BN1.out.later hb2)
  have BR2 := Lib.hid (BR1.out.later hb2)
  have HA2 := Lib.hid (HA1.out.later hb2)
  have hs1 := BR1.out.lt
  have hs2 := hb2.size
  have k3 := Lib.hid fun (A9 : Option Addr) (c9 : Nat) => (copyQueue_n A9 [] 0 c9 w2 w2.heap.size (Nat.le_refl _) rfl (by omega) Wts.empty (fun _ h => by cases h) (Jb.left now (l.map TW.w)) (by rw [HQ.out.2, List.drop_of_length_le (by simp)]; rfl))
  clear hb2 hm1 hq1 U1 BS1 BN1 BR1 HA1 k2
  clear g10
  have g10 := BS2.out.at 10 _ rfl
  go_wp2_with fail
  refine (k3.out _ _).mono ?_
  rintro e w3 ⟨A2, c2, l2, rfl, hm2, hq2, hb3⟩
  have HM2 := Lib.hid hm2
  have Q2 := Lib.hid hq2
  have Q1' := Lib.hid (Q1.out.below hb3 (Nat.le_refl _))
  have U3 := Lib.hid (U2.out.later hb3)
  have BS3 := Lib.hid (BS2.out.later hb3)
  have BN3 := Lib.hid (BN2.out.later hb3)
  have BR3 := Lib.hid (BR2.out.later hb3)
  have hs3 := hb3.size
  clear hb3 hm2 hq2 U2 BS2 BN2 BR2 HA2 k3 Q1 g10
  have f13 := BS3.out.at 13 _ rfl
  have f10 := BS3.out.at 10 _ rfl
  have fz := BS3.out.frozen
  go_wp2_with fail
  go_loopg [38] l.length (fun gk i wr => ∃ k : Nat, gk + k = l.length ∧ i = .int .i64 k ∧ Hid (Blk wr w.heap.size 40 #[.int .i64 le, .int .i64 mo, .int .i64 nw, .bool on, .int .i64 ze, .int .i64 fi, .int .i64 hi, .int .i64 (Jb.maxSq dn ((Jb.due now (l.map TW.w)).take k)), .int .i64 sp, .int .i64 tr, .slice A2 0 c2, .int .i64 la, .int .i64 tw, .int .i64 (pd + l.length)]) ∧ Hid (Blk wr (w.heap.size + 1) 3 #[.int .i64 now]) ∧ Hid (Blk wr (w.heap.size + 1 + 1) 40 #[.int .i64 0, .int .i64 0, .int .i64 0, .bool false, .int .i64 0, .int .i64 0, .int .i64 0, .int .i64 0, .int .i64 0, .int .i64 0, .slice none 0 0, .int .i64 0, .int .i64 0, .int .i64 0]) ∧ Hid (WtsIn wr w1.heap.size w2.heap.size A1 l1) ∧ Hid (QOwn wr w2.heap.size A2 0 c2 l2) ∧ Hid (Bel w wr) ∧ Hid (w2.heap.size ≤ wr.heap.size))
  case atStart =>
    refine ⟨0, rfl, rfl, Lib.hid ?_, Lib.hid ?_, Lib.hid ?_, Lib.hid ?_, Lib.hid ?_, Lib.hid ?_, Lib.hid ?_⟩
    · exact (BS3.out.set_ 10 (.slice A2 0 c2)).set_ 13 (.int .i64 (pd + l.length))
    · exact (BN3.out.far (by simp) _).far (by simp) _
    · exact (BR3.out.far (by simp; omega) _).far (by simp; omega) _
    · exact (Q1'.out.setCell (by simp; omega) _).setCell (by simp; omega) _
    · exact (Q2.out.setCell (by simp; omega) _).setCell (by simp; omega) _
    · exact below_set_old (below_set_old U3.out (Nat.le_refl _) _) (Nat.le_refl _) _
    · simpa [World.setCell] using hs3
  case round =>
    obtain ⟨k, hgk, rfl, BSr, BNr, BRr, W1r, Q2r, Ur, HSr⟩ := hrel
    have hi0 : (0 : Int) ≤ (k : Int) := by omega
    have hz0 := BSr.out.lt
    have fzr := BSr.out.frozen
    by_cases hk : k < l.length
    rotate_left
    · obtain rfl : k = l.length := by omega
      have hi1 : (l.length : Int) ≤ (l.length : Int) := Int.le_refl _
      have p0 := BSr.out.at 0 _ rfl
      have p1 := BSr.out.at 1 _ rfl
      have p2 := BSr.out.at 2 _ rfl
      have p3 := BSr.out.at 3 _ rfl
      have p4 := BSr.out.at 4 _ rfl
      have p5 := BSr.out.at 5 _ rfl
      have p6 := BSr.out.at 6 _ rfl
      have p7 := BSr.out.at 7 _ rfl
      have p8 := BSr.out.at 8 _ rfl
      have p9 := BSr.out.at 9 _ rfl
      have p10 := BSr.out.at 10 _ rfl
      have p11 := BSr.out.at 11 _ rfl
      have p12 := BSr.out.at 12 _ rfl
      have p13 := BSr.out.at 13 _ rfl
      have r0 := BRr.out.at 0 _ rfl
      have r1 := BRr.out.at 1 _ rfl
      have r2 := BRr.out.at 2 _ rfl
      have r3 := BRr.out.at 3 _ rfl
      have r4 := BRr.out.at 4 _ rfl
      have r5 := BRr.out.at 5 _ rfl
      have r6 := BRr.out.at 6 _ rfl
      have r7 := BRr.out.at 7 _ rfl
      have r8 := BRr.out.at 8 _ rfl
      have r9 := BRr.out.at 9 _ rfl
      have r10 := BRr.out.at 10 _ rfl
      have r11 := BRr.out.at 11 _ rfl
      have r12 := BRr.out.at 12 _ rfl
      have r13 := BRr.out.at 13 _ rfl
      have n0 := BNr.out.at 0 _ rfl
      have rfz := BRr.out.frozen
      go_wp2_with fail
      have htk : (Jb.due now (l.map TW.w)).take l.length = Jb.due now (l.map TW.w) := List.take_of_length_le (Nat.le_of_eq HD.out.symm)
      rw [htk]
      have BF := Blk.setRow (BRr.out.far (p := ⟨w.heap.size, 2, none⟩) (by simp; omega) (.int .i64 now)) [.int .i64 le, .int .i64 mo, .int .i64 now, .bool on, .int .i64 ze, .int .i64 fi, .int .i64 hi, .int .i64 (Jb.maxSq dn (Jb.due now (l.map TW.w))), .int .i64 sp, .int .i64 tr, .slice A2 0 c2, .int .i64 la, .int .i64 tw, .int .i64 (pd + l.length)] rfl
      have QF := QOwn.setRow (g := w.heap.size + 1 + 1) (by omega) [.int .i64 le, .int .i64 mo, .int .i64 now, .bool on, .int .i64 ze, .int .i64 fi, .int .i64 hi, .int .i64 (Jb.maxSq dn (Jb.due now (l.map TW.w))), .int .i64 sp, .int .i64 tr, .slice A2 0 c2, .int .i64 la, .int .i64 tw, .int .i64 (pd + l.length)] _ 0 (Q2r.out.setCell (p := ⟨w.heap.size, 2, none⟩) (by simp; omega) (.int .i64 now))
      have WF := WtsIn.setRow (g := w.heap.size + 1 + 1) (by omega) [.int .i64 le, .int .i64 mo, .int .i64 now, .bool on, .int .i64 ze, .int .i64 fi, .int .i64 hi, .int .i64 (Jb.maxSq dn (Jb.due now (l.map TW.w))), .int .i64 sp, .int .i64 tr, .slice A2 0 c2, .int .i64 la, .int .i64 tw, .int .i64 (pd + l.length)] _ 0 (W1r.out.setCell (p := ⟨w.heap.size, 2, none⟩) (by simp; omega) (.int .i64 now))
      have UF := below_setRow (g := w.heap.size + 1 + 1) (by omega) [.int .i64 le, .int .i64 mo, .int .i64 now, .bool on, .int .i64 ze, .int .i64 fi, .int .i64 hi, .int .i64 (Jb.maxSq dn (Jb.due now (l.map TW.w))), .int .i64 sp, .int .i64 tr, .slice A2 0 c2, .int .i64 la, .int .i64 tw, .int .i64 (pd + l.length)] _ 0 (below_set_old (p := ⟨w.heap.size, 2, none⟩) Ur.out (Nat.le_refl _) (.int .i64 now))
      have SF := setRow_size (w.heap.size + 1 + 1) [.int .i64 le, .int .i64 mo, .int .i64 now, .bool on, .int .i64 ze, .int .i64 fi, .int .i64 hi, .int .i64 (Jb.maxSq dn (Jb.due now (l.map TW.w))), .int .i64 sp, .int .i64 tr, .slice A2 0 c2, .int .i64 la, .int .i64 tw, .int .i64 (pd + l.length)] (wr.setCell ⟨w.heap.size, 2, none⟩ (.int .i64 now)) 0
      obtain ⟨W, hW⟩ : ∃ W, W = setRow (w.heap.size + 1 + 1) (wr.setCell ⟨w.heap.size, 2, none⟩ (.int .i64 now)) 0 [.int .i64 le, .int .i64 mo, .int .i64 now, .bool on, .int .i64 ze, .int .i64 fi, .int .i64 hi, .int .i64 (Jb.maxSq dn (Jb.due now (l.map TW.w))), .int .i64 sp, .int .i64 tr, .slice A2 0 c2, .int .i64 la, .int .i64 tw, .int .i64 (pd + l.length)] := ⟨_, rfl⟩
      rw [← hW] at BF QF WF UF SF
      simp only [setRow, Nat.zero_add, Nat.reduceAdd] at hW
      rw [← hW]
      have hl2 : l2.length = 0 := Q2r.out.len
      have hl1 : l1.length = l.length := HL1.out
      rw [← hl2] at BF QF
      exact bodyPost_ret (v := .tuple #[.agg (List.toArray [.int .i64 le, .int .i64 mo, .int .i64 now, .bool on, .int .i64 ze, .int .i64 fi, .int .i64 hi, .int .i64 (Jb.maxSq dn (Jb.due now (l.map TW.w))), .int .i64 sp, .int .i64 tr, .slice A2 l2.length c2, .int .i64 la, .int .i64 tw, .int .i64 (pd + l.length)]), .slice A1 l.length c1]) (res_ct Tryz.results102 rfl (run_loadVar_row (P := Tryz.prog) _ _ _ _ _ _ _ BF Tryz.underlying40 rfl (by kernel_rfl)) rfl) rfl ⟨A1, c1, l1, A2, c2, l2, w2.heap.size, by rw [hl1, ← HD.out], HM1.out, HM2.out, WF.less (by omega), QF, by omega, by have := HSr.out; rw [SF]; simpa [World.setCell] using this, HCA.out, UF⟩
    have hi1 : (k : Int) < (l.length : Int) := by omega
    have hl1 : l1.length = l.length := HL1.out
    obtain ⟨a, ha⟩ : ∃ a, l1[k]? = some a := ⟨_, List.getElem?_eq_getElem (by omega)⟩
    obtain ⟨b9, off9, rfl, hbB, e0, e1, e2, e3, e4, e5⟩ := rowsW W1r.out.rows.1 ha
    have hm : (Jb.due now (l.map TW.w))[k]? = some a.w := by rw [← HM1.out, List.getElem?_map, ha]; rfl
    have HM := Lib.hid hm
    obtain ⟨⟨at0, ⟨sq0, ti0, mk0, ty0, pl0⟩⟩, B0, c0⟩ := a
    simp only at e0 e1 e2 e3 e4 e5 HM
    have hbw : b9 < wr.heap.size := Nat.lt_of_lt_of_le hbB HSr.out
    have p7 := BSr.out.at 7 _ rfl
    clear ha hm hl1
    go_wp2_with fail
    go_roundg (gk - 1)
    case measure => omega
    case rel =>
      refine ⟨k + 1, by omega, by go_num, Lib.hid ?_, Lib.hid ?_, Lib.hid ?_, Lib.hid ?_, Lib.hid ?_, Lib.hid ?_, Lib.hid ?_⟩
      · rw [List.take_add_one, HM.out]
        simp only [Option.toList_some]
        rw [maxSq_snoc]
        exact (BSr.out.set_ 7 _).push _
      · exact (BNr.out.far (by simp) _).push _
      · exact (BRr.out.far (by simp; omega) _).push _
      · exact (W1r.out.setCell (by simp; omega) _).below ((Below.refl _ _).alloc (Nat.le_refl _) _) (by have := HSr.out; simpa [World.setCell] using this)
      · exact (Q2r.out.setCell (by simp; omega) _).push _
      · exact Bel.push (below_set_old Ur.out (Nat.le_refl _) _) _
      · have := HSr.out; simp [World.setCell]; omega
end Go.Proofs.YtahbecinkciahaaGreat
/- Layer 30: run, where the queue is nil. -/
namespace Go.Proofs.YtahbecinkciahaaGreat
open Go.RowKit
set_option linter.unusedVariables false
set_option linter.unusedSimpArgs false
attribute [local go_sem ↓] run_min_plain run_max_plain
attribute [local go_sem] setCell_drewN alloc_drewN
set_option maxRecDepth 100000 in
set_option maxHeartbeats 12800000 in
theorem run_nil (le mo nw : Int) (on : Bool) (ze fi hi dn sp tr : Int) (qc : Nat) (la tw pd now : Int) (w : World) (hpd : -9223372036854775808 ≤ pd ∧ pd ≤ 9223372036854775000) : Calls Tryz.prog 102 #[.agg #[.int .i64 le, .int .i64 mo, .int .i64 nw, .bool on, .int .i64 ze, .int .i64 fi, .int .i64 hi, .int .i64 dn, .int .i64 sp, .int .i64 tr, .slice none 0 qc, .int .i64 la, .int .i64 tw, .int .i64 pd], .int .i64 now] w (RunR le mo on ze fi hi dn sp tr [] la tw pd now w) := by
  have hR : firstLate now (([] : List TW).map TW.w) = -1 := rfl
  have hA : Wts w w.heap.size none [] := Wts.empty
  obtain ⟨W0, hW0⟩ : ∃ W0, W0 = ((w.alloc (.cells #[.int .i64 le, .int .i64 mo, .int .i64 nw, .bool on, .int .i64 ze, .int .i64 fi, .int .i64 hi, .int .i64 dn, .int .i64 sp, .int .i64 tr, .slice none 0 qc, .int .i64 la, .int .i64 tw, .int .i64 pd] 40)).alloc (.cells #[.int .i64 now] 3)).alloc (.cells #[.int .i64 0, .int .i64 0, .int .i64 0, .bool false, .int .i64 0, .int .i64 0, .int .i64 0, .int .i64 0, .int .i64 0, .int .i64 0, .slice none 0 0, .int .i64 0, .int .i64 0, .int .i64 0] 40) := ⟨_, rfl⟩
  have hU0 : Bel w W0 := by rw [hW0]; exact (((Bel.refl w).push _).push _).push _
  have hB0 : Blk W0 w.heap.size 40 #[.int .i64 le, .int .i64 mo, .int .i64 nw, .bool on, .int .i64 ze, .int .i64 fi, .int .i64 hi, .int .i64 dn, .int .i64 sp, .int .i64 tr, .slice none 0 qc, .int .i64 la, .int .i64 tw, .int .i64 pd] := by rw [hW0]; exact ((Blk.new w _ _).push _).push _
  have hB1 : Blk W0 (w.heap.size + 1) 3 #[.int .i64 now] := by rw [hW0]; exact (Blk.new1 w _ _ _).push _
  have hB2 : Blk W0 (w.heap.size + 1 + 1) 40 #[.int .i64 0, .int .i64 0, .int .i64 0, .bool false, .int .i64 0, .int .i64 0, .int .i64 0, .int .i64 0, .int .i64 0, .int .i64 0, .slice none 0 0, .int .i64 0, .int .i64 0, .int .i64 0] := by rw [hW0]; have := Blk.new ((w.alloc (.cells #[.int .i64 le, .int .i64 mo, .int .i64 nw, .bool on, .int .i64 ze, .int .i64 fi, .int .i64 hi, .int .i64 dn, .int .i64 sp, .int .i64 tr, .slice none 0 qc, .int .i64 la, .int .i64 tw, .int .i64 pd] 40)).alloc (.cells #[.int .i64 now] 3)) 40 #[.int .i64 0, .int .i64 0, .int .i64 0, .bool false, .int .i64 0, .int .i64 0, .int .i64 0, .int .i64 0, .int .i64 0, .int .i64 0, .slice none 0 0, .int .i64 0, .int .i64 0, .int .i64 0]; rw [size_alloc2] at this; exact this
  have hA0 : Wts W0 W0.heap.size none [] := (hA.below hU0).more hU0.size
  have k1 := index_any none [] 0 qc (w.heap.size + 1) now W0 rfl (by omega) hA0 (hB1.at 0 _ rfl) hB1.lt
  rw [hR] at k1
  rw [hW0] at k1
  have K1 := Lib.hid k1
  have HW0 := Lib.hid hW0
  have U0 := Lib.hid hU0
  have BS := Lib.hid hB0
  have BN := Lib.hid hB1
  have BR := Lib.hid hB2
  have HA := Lib.hid hA0
  clear k1 hW0 hU0 hB0 hB1 hB2 hA0 hA hR
  go_enter Tryz.func102, Tryz.ntmps102
  go_wp2_with fail
  refine K1.out.mono ?_
  rw [← HW0.out]
  rintro e w1 ⟨rfl, hb1⟩
  have U1 := Lib.hid (U0.out.later hb1)
  have BS1 := Lib.hid (BS.out.later hb1)
  have BN1 := Lib.hid (BN.out.later hb1)
  have BR1 := Lib.hid (BR.out.later hb1)
  have HA1 := Lib.hid (HA.out.later hb1)
  have g10 := BS1.out.at 10 _ rfl
  clear hb1 K1 HW0 U0 BS BN BR HA
  have k2 := Lib.hid fun (A9 : Option Addr) (c9 : Nat) => (copyQueue_n A9 [] 0 c9 w1 w1.heap.size (Nat.le_refl _) rfl (by omega) Wts.empty (fun _ h => by cases h) (Jb.due now []) rfl)
  go_wp2_with fail
  refine (k2.out _ _).mono ?_
  rintro e w2 ⟨A1, c1, l1, rfl, hm1, hq1, hb2⟩
  have HM1 := Lib.hid hm1
  have Q1 := Lib.hid hq1.wtsIn
  have HL1 := Lib.hid hq1.len
  have HCA : Hid (l1.length ≤ c1 ∧ c1 ≤ maxLen) := Lib.hid ⟨by rw [hq1.len]; exact hq1.own.cap, Owns.capm hq1.own⟩
  have U2 := Lib.hid (U1.out.later hb2)
  have BS2 := Lib.hid (BS1.out.later hb2)
  have BN2 := Lib.hid (BN1.out.later hb2)
  have BR2 := Lib.hid (BR1.out.later hb2)
  have HA2 := Lib.hid (HA1.out.later hb2)
  have hs1 := BR1.out.lt
  have hs2 := hb2.size
  have k3 := Lib.hid fun (A9 : Option Addr) (c9 : Nat) => (copyQueue_n A9 [] 0 c9 w2 w2.heap.size (Nat.le_refl _) rfl (by omega) Wts.empty (fun _ h => by cases h) (Jb.left now []) rfl)
  clear hb2 hm1 hq1 U1 BS1 BN1 BR1 HA1 k2
  clear g10
  have g10 := BS2.out.at 10 _ rfl
  go_wp2_with fail
  refine (k3.out _ _).mono ?_
  rintro e w3 ⟨A2, c2, l2, rfl, hm2, hq2, hb3⟩
  have HM2 := Lib.hid hm2
  have Q2 := Lib.hid hq2
  have Q1' := Lib.hid (Q1.out.below hb3 (Nat.le_refl _))
  have U3 := Lib.hid (U2.out.later hb3)
  have BS3 := Lib.hid (BS2.out.later hb3)
  have BN3 := Lib.hid (BN2.out.later hb3)
  have BR3 := Lib.hid (BR2.out.later hb3)
  have hs3 := hb3.size
  clear hb3 hm2 hq2 U2 BS2 BN2 BR2 HA2 k3 Q1 g10
  have f13 := BS3.out.at 13 _ rfl
  have f10 := BS3.out.at 10 _ rfl
  have fz := BS3.out.frozen
  go_wp2_with fail
  go_loopg [38] 0 (fun gk i wr => ∃ k : Nat, gk + k = 0 ∧ i = .int .i64 k ∧ Hid (Blk wr w.heap.size 40 #[.int .i64 le, .int .i64 mo, .int .i64 nw, .bool on, .int .i64 ze, .int .i64 fi, .int .i64 hi, .int .i64 (Jb.maxSq dn (([] : List Jb.Wt))), .int .i64 sp, .int .i64 tr, .slice A2 0 c2, .int .i64 la, .int .i64 tw, .int .i64 pd]) ∧ Hid (Blk wr (w.heap.size + 1) 3 #[.int .i64 now]) ∧ Hid (Blk wr (w.heap.size + 1 + 1) 40 #[.int .i64 0, .int .i64 0, .int .i64 0, .bool false, .int .i64 0, .int .i64 0, .int .i64 0, .int .i64 0, .int .i64 0, .int .i64 0, .slice none 0 0, .int .i64 0, .int .i64 0, .int .i64 0]) ∧ Hid (WtsIn wr w1.heap.size w2.heap.size A1 l1) ∧ Hid (QOwn wr w2.heap.size A2 0 c2 l2) ∧ Hid (Bel w wr) ∧ Hid (w2.heap.size ≤ wr.heap.size))
  case atStart =>
    refine ⟨0, rfl, rfl, Lib.hid ?_, Lib.hid ?_, Lib.hid ?_, Lib.hid ?_, Lib.hid ?_, Lib.hid ?_, Lib.hid ?_⟩
    · exact (BS3.out.set_ 10 (.slice A2 0 c2)).set_ 13 (.int .i64 pd)
    · exact (BN3.out.far (by simp) _).far (by simp) _
    · exact (BR3.out.far (by simp; omega) _).far (by simp; omega) _
    · exact (Q1'.out.setCell (by simp; omega) _).setCell (by simp; omega) _
    · exact (Q2.out.setCell (by simp; omega) _).setCell (by simp; omega) _
    · exact below_set_old (below_set_old U3.out (Nat.le_refl _) _) (Nat.le_refl _) _
    · simpa [World.setCell] using hs3
  case round =>
    obtain ⟨k, hgk, rfl, BSr, BNr, BRr, W1r, Q2r, Ur, HSr⟩ := hrel
    have hi0 : (0 : Int) ≤ (k : Int) := by omega
    have hz0 := BSr.out.lt
    have fzr := BSr.out.frozen
    by_cases hk : k < 0
    rotate_left
    · obtain rfl : k = 0 := by omega
      have hi1 : (0 : Int) ≤ (0 : Int) := Int.le_refl _
      have p0 := BSr.out.at 0 _ rfl
      have p1 := BSr.out.at 1 _ rfl
      have p2 := BSr.out.at 2 _ rfl
      have p3 := BSr.out.at 3 _ rfl
      have p4 := BSr.out.at 4 _ rfl
      have p5 := BSr.out.at 5 _ rfl
      have p6 := BSr.out.at 6 _ rfl
      have p7 := BSr.out.at 7 _ rfl
      have p8 := BSr.out.at 8 _ rfl
      have p9 := BSr.out.at 9 _ rfl
      have p10 := BSr.out.at 10 _ rfl
      have p11 := BSr.out.at 11 _ rfl
      have p12 := BSr.out.at 12 _ rfl
      have p13 := BSr.out.at 13 _ rfl
      have r0 := BRr.out.at 0 _ rfl
      have r1 := BRr.out.at 1 _ rfl
      have r2 := BRr.out.at 2 _ rfl
      have r3 := BRr.out.at 3 _ rfl
      have r4 := BRr.out.at 4 _ rfl
      have r5 := BRr.out.at 5 _ rfl
      have r6 := BRr.out.at 6 _ rfl
      have r7 := BRr.out.at 7 _ rfl
      have r8 := BRr.out.at 8 _ rfl
      have r9 := BRr.out.at 9 _ rfl
      have r10 := BRr.out.at 10 _ rfl
      have r11 := BRr.out.at 11 _ rfl
      have r12 := BRr.out.at 12 _ rfl
      have r13 := BRr.out.at 13 _ rfl
      have n0 := BNr.out.at 0 _ rfl
      have rfz := BRr.out.frozen
      go_wp2_with fail
      have BF := Blk.setRow (BRr.out.far (p := ⟨w.heap.size, 2, none⟩) (by simp; omega) (.int .i64 now)) [.int .i64 le, .int .i64 mo, .int .i64 now, .bool on, .int .i64 ze, .int .i64 fi, .int .i64 hi, .int .i64 (Jb.maxSq dn []), .int .i64 sp, .int .i64 tr, .slice A2 0 c2, .int .i64 la, .int .i64 tw, .int .i64 pd] rfl
      have QF := QOwn.setRow (g := w.heap.size + 1 + 1) (by omega) [.int .i64 le, .int .i64 mo, .int .i64 now, .bool on, .int .i64 ze, .int .i64 fi, .int .i64 hi, .int .i64 (Jb.maxSq dn []), .int .i64 sp, .int .i64 tr, .slice A2 0 c2, .int .i64 la, .int .i64 tw, .int .i64 pd] _ 0 (Q2r.out.setCell (p := ⟨w.heap.size, 2, none⟩) (by simp; omega) (.int .i64 now))
      have WF := WtsIn.setRow (g := w.heap.size + 1 + 1) (by omega) [.int .i64 le, .int .i64 mo, .int .i64 now, .bool on, .int .i64 ze, .int .i64 fi, .int .i64 hi, .int .i64 (Jb.maxSq dn []), .int .i64 sp, .int .i64 tr, .slice A2 0 c2, .int .i64 la, .int .i64 tw, .int .i64 pd] _ 0 (W1r.out.setCell (p := ⟨w.heap.size, 2, none⟩) (by simp; omega) (.int .i64 now))
      have UF := below_setRow (g := w.heap.size + 1 + 1) (by omega) [.int .i64 le, .int .i64 mo, .int .i64 now, .bool on, .int .i64 ze, .int .i64 fi, .int .i64 hi, .int .i64 (Jb.maxSq dn []), .int .i64 sp, .int .i64 tr, .slice A2 0 c2, .int .i64 la, .int .i64 tw, .int .i64 pd] _ 0 (below_set_old (p := ⟨w.heap.size, 2, none⟩) Ur.out (Nat.le_refl _) (.int .i64 now))
      have SF := setRow_size (w.heap.size + 1 + 1) [.int .i64 le, .int .i64 mo, .int .i64 now, .bool on, .int .i64 ze, .int .i64 fi, .int .i64 hi, .int .i64 (Jb.maxSq dn []), .int .i64 sp, .int .i64 tr, .slice A2 0 c2, .int .i64 la, .int .i64 tw, .int .i64 pd] (wr.setCell ⟨w.heap.size, 2, none⟩ (.int .i64 now)) 0
      obtain ⟨W, hW⟩ : ∃ W, W = setRow (w.heap.size + 1 + 1) (wr.setCell ⟨w.heap.size, 2, none⟩ (.int .i64 now)) 0 [.int .i64 le, .int .i64 mo, .int .i64 now, .bool on, .int .i64 ze, .int .i64 fi, .int .i64 hi, .int .i64 (Jb.maxSq dn []), .int .i64 sp, .int .i64 tr, .slice A2 0 c2, .int .i64 la, .int .i64 tw, .int .i64 pd] := ⟨_, rfl⟩
      rw [← hW] at BF QF WF UF SF
      simp only [setRow, Nat.zero_add, Nat.reduceAdd] at hW
      rw [← hW]
      have hl2 : l2.length = 0 := Q2r.out.len
      have hl1 : l1.length = 0 := HL1.out
      rw [← hl2] at BF QF
      exact bodyPost_ret (v := .tuple #[.agg (List.toArray [.int .i64 le, .int .i64 mo, .int .i64 now, .bool on, .int .i64 ze, .int .i64 fi, .int .i64 hi, .int .i64 (Jb.maxSq dn []), .int .i64 sp, .int .i64 tr, .slice A2 l2.length c2, .int .i64 la, .int .i64 tw, .int .i64 pd]), .slice A1 0 c1]) (res_ct Tryz.results102 rfl (run_loadVar_row (P := Tryz.prog) _ _ _ _ _ _ _ BF Tryz.underlying40 rfl (by kernel_rfl)) rfl) rfl ⟨A1, c1, l1, A2, c2, l2, w2.heap.size, by rw [hl1, show ((Jb.due now []).length : Int) = 0 from rfl, Int.add_zero]; rfl, HM1.out, HM2.out, WF.less (by omega), QF, by omega, by have := HSr.out; rw [SF]; simpa [World.setCell] using this, HCA.out, UF⟩
    exact absurd hk (by omega)
set_option maxRecDepth 100000 in
set_option maxHeartbeats 12800000 in
theorem run_nowhere (le mo nw : Int) (on : Bool) (ze fi hi dn sp tr : Int) (a : Addr) (qc : Nat) (la tw pd now : Int) (w : World) (hcm : qc ≤ maxLen) (hpd : -9223372036854775808 ≤ pd ∧ pd ≤ 9223372036854775000) : Calls Tryz.prog 102 #[.agg #[.int .i64 le, .int .i64 mo, .int .i64 nw, .bool on, .int .i64 ze, .int .i64 fi, .int .i64 hi, .int .i64 dn, .int .i64 sp, .int .i64 tr, .slice (some a) 0 qc, .int .i64 la, .int .i64 tw, .int .i64 pd], .int .i64 now] w (RunR le mo on ze fi hi dn sp tr [] la tw pd now w) := by
  have hR : firstLate now (([] : List TW).map TW.w) = -1 := rfl
  have hA : Wts w w.heap.size (some a) [] := Wts.empty
  obtain ⟨W0, hW0⟩ : ∃ W0, W0 = ((w.alloc (.cells #[.int .i64 le, .int .i64 mo, .int .i64 nw, .bool on, .int .i64 ze, .int .i64 fi, .int .i64 hi, .int .i64 dn, .int .i64 sp, .int .i64 tr, .slice (some a) 0 qc, .int .i64 la, .int .i64 tw, .int .i64 pd] 40)).alloc (.cells #[.int .i64 now] 3)).alloc (.cells #[.int .i64 0, .int .i64 0, .int .i64 0, .bool false, .int .i64 0, .int .i64 0, .int .i64 0, .int .i64 0, .int .i64 0, .int .i64 0, .slice none 0 0, .int .i64 0, .int .i64 0, .int .i64 0] 40) := ⟨_, rfl⟩
  have hU0 : Bel w W0 := by rw [hW0]; exact (((Bel.refl w).push _).push _).push _
  have hB0 : Blk W0 w.heap.size 40 #[.int .i64 le, .int .i64 mo, .int .i64 nw, .bool on, .int .i64 ze, .int .i64 fi, .int .i64 hi, .int .i64 dn, .int .i64 sp, .int .i64 tr, .slice (some a) 0 qc, .int .i64 la, .int .i64 tw, .int .i64 pd] := by rw [hW0]; exact ((Blk.new w _ _).push _).push _
  have hB1 : Blk W0 (w.heap.size + 1) 3 #[.int .i64 now] := by rw [hW0]; exact (Blk.new1 w _ _ _).push _
  have hB2 : Blk W0 (w.heap.size + 1 + 1) 40 #[.int .i64 0, .int .i64 0, .int .i64 0, .bool false, .int .i64 0, .int .i64 0, .int .i64 0, .int .i64 0, .int .i64 0, .int .i64 0, .slice none 0 0, .int .i64 0, .int .i64 0, .int .i64 0] := by rw [hW0]; have := Blk.new ((w.alloc (.cells #[.int .i64 le, .int .i64 mo, .int .i64 nw, .bool on, .int .i64 ze, .int .i64 fi, .int .i64 hi, .int .i64 dn, .int .i64 sp, .int .i64 tr, .slice (some a) 0 qc, .int .i64 la, .int .i64 tw, .int .i64 pd] 40)).alloc (.cells #[.int .i64 now] 3)) 40 #[.int .i64 0, .int .i64 0, .int .i64 0, .bool false, .int .i64 0, .int .i64 0, .int .i64 0, .int .i64 0, .int .i64 0, .int .i64 0, .slice none 0 0, .int .i64 0, .int .i64 0, .int .i64 0]; rw [size_alloc2] at this; exact this
  have hA0 : Wts W0 W0.heap.size (some a) [] := (hA.below hU0).more hU0.size
  have k1 := index_any (some a) [] 0 qc (w.heap.size + 1) now W0 rfl (by omega) hA0 (hB1.at 0 _ rfl) hB1.lt
  rw [hR] at k1
  rw [hW0] at k1
  have K1 := Lib.hid k1
  have HW0 := Lib.hid hW0
  have U0 := Lib.hid hU0
  have BS := Lib.hid hB0
  have BN := Lib.hid hB1
  have BR := Lib.hid hB2
  have HA := Lib.hid hA0
  clear k1 hW0 hU0 hB0 hB1 hB2 hA0 hA hR
  unfold maxLen at hcm
  have h00 : (0 : Int) ≤ (qc : Int) := by omega
  by_cases hq : qc = 0
  · subst hq
    go_enter Tryz.func102, Tryz.ntmps102
    go_wp2_with fail
    refine K1.out.mono ?_
    rw [← HW0.out]
    rintro e w1 ⟨rfl, hb1⟩
    have U1 := Lib.hid (U0.out.later hb1)
    have BS1 := Lib.hid (BS.out.later hb1)
    have BN1 := Lib.hid (BN.out.later hb1)
    have BR1 := Lib.hid (BR.out.later hb1)
    have HA1 := Lib.hid (HA.out.later hb1)
    have g10 := BS1.out.at 10 _ rfl
    clear hb1 K1 HW0 U0 BS BN BR HA
    have k2 := Lib.hid fun (A9 : Option Addr) (c9 : Nat) => (copyQueue_n A9 [] 0 c9 w1 w1.heap.size (Nat.le_refl _) rfl (by omega) Wts.empty (fun _ h => by cases h) (Jb.due now []) rfl)
    go_wp2_with fail
    refine (k2.out _ _).mono ?_
    rintro e w2 ⟨A1, c1, l1, rfl, hm1, hq1, hb2⟩
    have HM1 := Lib.hid hm1
    have Q1 := Lib.hid hq1.wtsIn
    have HL1 := Lib.hid hq1.len
    have HCA : Hid (l1.length ≤ c1 ∧ c1 ≤ maxLen) := Lib.hid ⟨by rw [hq1.len]; exact hq1.own.cap, Owns.capm hq1.own⟩
    have U2 := Lib.hid (U1.out.later hb2)
    have BS2 := Lib.hid (BS1.out.later hb2)
    have BN2 := Lib.hid (BN1.out.later hb2)
    have BR2 := Lib.hid (BR1.out.later hb2)
    have HA2 := Lib.hid (HA1.out.later hb2)
    have hs1 := BR1.out.lt
    have hs2 := hb2.size
    have k3 := Lib.hid fun (A9 : Option Addr) (c9 : Nat) => (copyQueue_n A9 [] 0 c9 w2 w2.heap.size (Nat.le_refl _) rfl (by omega) Wts.empty (fun _ h => by cases h) (Jb.left now []) rfl)
    clear hb2 hm1 hq1 U1 BS1 BN1 BR1 HA1 k2
    clear g10
    have g10 := BS2.out.at 10 _ rfl
    go_wp2_with fail
    refine (k3.out _ _).mono ?_
    rintro e w3 ⟨A2, c2, l2, rfl, hm2, hq2, hb3⟩
    have HM2 := Lib.hid hm2
    have Q2 := Lib.hid hq2
    have Q1' := Lib.hid (Q1.out.below hb3 (Nat.le_refl _))
    have U3 := Lib.hid (U2.out.later hb3)
    have BS3 := Lib.hid (BS2.out.later hb3)
    have BN3 := Lib.hid (BN2.out.later hb3)
    have BR3 := Lib.hid (BR2.out.later hb3)
    have hs3 := hb3.size
    clear hb3 hm2 hq2 U2 BS2 BN2 BR2 HA2 k3 Q1 g10
    have f13 := BS3.out.at 13 _ rfl
    have f10 := BS3.out.at 10 _ rfl
    have fz := BS3.out.frozen
    go_wp2_with fail
    go_loopg [38] 0 (fun gk i wr => ∃ k : Nat, gk + k = 0 ∧ i = .int .i64 k ∧ Hid (Blk wr w.heap.size 40 #[.int .i64 le, .int .i64 mo, .int .i64 nw, .bool on, .int .i64 ze, .int .i64 fi, .int .i64 hi, .int .i64 (Jb.maxSq dn (([] : List Jb.Wt))), .int .i64 sp, .int .i64 tr, .slice A2 0 c2, .int .i64 la, .int .i64 tw, .int .i64 pd]) ∧ Hid (Blk wr (w.heap.size + 1) 3 #[.int .i64 now]) ∧ Hid (Blk wr (w.heap.size + 1 + 1) 40 #[.int .i64 0, .int .i64 0, .int .i64 0, .bool false, .int .i64 0, .int .i64 0, .int .i64 0, .int .i64 0, .int .i64 0, .int .i64 0, .slice none 0 0, .int .i64 0, .int .i64 0, .int .i64 0]) ∧ Hid (WtsIn wr w1.heap.size w2.heap.size A1 l1) ∧ Hid (QOwn wr w2.heap.size A2 0 c2 l2) ∧ Hid (Bel w wr) ∧ Hid (w2.heap.size ≤ wr.heap.size))
    case atStart =>
      refine ⟨0, rfl, rfl, Lib.hid ?_, Lib.hid ?_, Lib.hid ?_, Lib.hid ?_, Lib.hid ?_, Lib.hid ?_, Lib.hid ?_⟩
      · exact (BS3.out.set_ 10 (.slice A2 0 c2)).set_ 13 (.int .i64 pd)
      · exact (BN3.out.far (by simp) _).far (by simp) _
      · exact (BR3.out.far (by simp; omega) _).far (by simp; omega) _
      · exact (Q1'.out.setCell (by simp; omega) _).setCell (by simp; omega) _
      · exact (Q2.out.setCell (by simp; omega) _).setCell (by simp; omega) _
      · exact below_set_old (below_set_old U3.out (Nat.le_refl _) _) (Nat.le_refl _) _
      · simpa [World.setCell] using hs3
    case round =>
      obtain ⟨k, hgk, rfl, BSr, BNr, BRr, W1r, Q2r, Ur, HSr⟩ := hrel
      have hi0 : (0 : Int) ≤ (k : Int) := by omega
      have hz0 := BSr.out.lt
      have fzr := BSr.out.frozen
      by_cases hk : k < 0
      rotate_left
      · obtain rfl : k = 0 := by omega
        have hi1 : (0 : Int) ≤ (0 : Int) := Int.le_refl _
        have p0 := BSr.out.at 0 _ rfl
        have p1 := BSr.out.at 1 _ rfl
        have p2 := BSr.out.at 2 _ rfl
        have p3 := BSr.out.at 3 _ rfl
        have p4 := BSr.out.at 4 _ rfl
        have p5 := BSr.out.at 5 _ rfl
        have p6 := BSr.out.at 6 _ rfl
        have p7 := BSr.out.at 7 _ rfl
        have p8 := BSr.out.at 8 _ rfl
        have p9 := BSr.out.at 9 _ rfl
        have p10 := BSr.out.at 10 _ rfl
        have p11 := BSr.out.at 11 _ rfl
        have p12 := BSr.out.at 12 _ rfl
        have p13 := BSr.out.at 13 _ rfl
        have r0 := BRr.out.at 0 _ rfl
        have r1 := BRr.out.at 1 _ rfl
        have r2 := BRr.out.at 2 _ rfl
        have r3 := BRr.out.at 3 _ rfl
        have r4 := BRr.out.at 4 _ rfl
        have r5 := BRr.out.at 5 _ rfl
        have r6 := BRr.out.at 6 _ rfl
        have r7 := BRr.out.at 7 _ rfl
        have r8 := BRr.out.at 8 _ rfl
        have r9 := BRr.out.at 9 _ rfl
        have r10 := BRr.out.at 10 _ rfl
        have r11 := BRr.out.at 11 _ rfl
        have r12 := BRr.out.at 12 _ rfl
        have r13 := BRr.out.at 13 _ rfl
        have n0 := BNr.out.at 0 _ rfl
        have rfz := BRr.out.frozen
        go_wp2_with fail
        have BF := Blk.setRow (BRr.out.far (p := ⟨w.heap.size, 2, none⟩) (by simp; omega) (.int .i64 now)) [.int .i64 le, .int .i64 mo, .int .i64 now, .bool on, .int .i64 ze, .int .i64 fi, .int .i64 hi, .int .i64 (Jb.maxSq dn []), .int .i64 sp, .int .i64 tr, .slice A2 0 c2, .int .i64 la, .int .i64 tw, .int .i64 pd] rfl
        have QF := QOwn.setRow (g := w.heap.size + 1 + 1) (by omega) [.int .i64 le, .int .i64 mo, .int .i64 now, .bool on, .int .i64 ze, .int .i64 fi, .int .i64 hi, .int .i64 (Jb.maxSq dn []), .int .i64 sp, .int .i64 tr, .slice A2 0 c2, .int .i64 la, .int .i64 tw, .int .i64 pd] _ 0 (Q2r.out.setCell (p := ⟨w.heap.size, 2, none⟩) (by simp; omega) (.int .i64 now))
        have WF := WtsIn.setRow (g := w.heap.size + 1 + 1) (by omega) [.int .i64 le, .int .i64 mo, .int .i64 now, .bool on, .int .i64 ze, .int .i64 fi, .int .i64 hi, .int .i64 (Jb.maxSq dn []), .int .i64 sp, .int .i64 tr, .slice A2 0 c2, .int .i64 la, .int .i64 tw, .int .i64 pd] _ 0 (W1r.out.setCell (p := ⟨w.heap.size, 2, none⟩) (by simp; omega) (.int .i64 now))
        have UF := below_setRow (g := w.heap.size + 1 + 1) (by omega) [.int .i64 le, .int .i64 mo, .int .i64 now, .bool on, .int .i64 ze, .int .i64 fi, .int .i64 hi, .int .i64 (Jb.maxSq dn []), .int .i64 sp, .int .i64 tr, .slice A2 0 c2, .int .i64 la, .int .i64 tw, .int .i64 pd] _ 0 (below_set_old (p := ⟨w.heap.size, 2, none⟩) Ur.out (Nat.le_refl _) (.int .i64 now))
        have SF := setRow_size (w.heap.size + 1 + 1) [.int .i64 le, .int .i64 mo, .int .i64 now, .bool on, .int .i64 ze, .int .i64 fi, .int .i64 hi, .int .i64 (Jb.maxSq dn []), .int .i64 sp, .int .i64 tr, .slice A2 0 c2, .int .i64 la, .int .i64 tw, .int .i64 pd] (wr.setCell ⟨w.heap.size, 2, none⟩ (.int .i64 now)) 0
        obtain ⟨W, hW⟩ : ∃ W, W = setRow (w.heap.size + 1 + 1) (wr.setCell ⟨w.heap.size, 2, none⟩ (.int .i64 now)) 0 [.int .i64 le, .int .i64 mo, .int .i64 now, .bool on, .int .i64 ze, .int .i64 fi, .int .i64 hi, .int .i64 (Jb.maxSq dn []), .int .i64 sp, .int .i64 tr, .slice A2 0 c2, .int .i64 la, .int .i64 tw, .int .i64 pd] := ⟨_, rfl⟩
        rw [← hW] at BF QF WF UF SF
        simp only [setRow, Nat.zero_add, Nat.reduceAdd] at hW
        rw [← hW]
        have hl2 : l2.length = 0 := Q2r.out.len
        have hl1 : l1.length = 0 := HL1.out
        rw [← hl2] at BF QF
        exact bodyPost_ret (v := .tuple #[.agg (List.toArray [.int .i64 le, .int .i64 mo, .int .i64 now, .bool on, .int .i64 ze, .int .i64 fi, .int .i64 hi, .int .i64 (Jb.maxSq dn []), .int .i64 sp, .int .i64 tr, .slice A2 l2.length c2, .int .i64 la, .int .i64 tw, .int .i64 pd]), .slice A1 0 c1]) (res_ct Tryz.results102 rfl (run_loadVar_row (P := Tryz.prog) _ _ _ _ _ _ _ BF Tryz.underlying40 rfl (by kernel_rfl)) rfl) rfl ⟨A1, c1, l1, A2, c2, l2, w2.heap.size, by rw [hl1, show ((Jb.due now []).length : Int) = 0 from rfl, Int.add_zero]; rfl, HM1.out, HM2.out, WF.less (by omega), QF, by omega, by have := HSr.out; rw [SF]; simpa [World.setCell] using this, HCA.out, UF⟩
      exact absurd hk (by omega)
  go_enter Tryz.func102, Tryz.ntmps102
  go_wp2_with fail
  refine K1.out.mono ?_
  rw [← HW0.out]
  rintro e w1 ⟨rfl, hb1⟩
  have U1 := Lib.hid (U0.out.later hb1)
  have BS1 := Lib.hid (BS.out.later hb1)
  have BN1 := Lib.hid (BN.out.later hb1)
  have BR1 := Lib.hid (BR.out.later hb1)
  have HA1 := Lib.hid (HA.out.later hb1)
  have g10 := BS1.out.at 10 _ rfl
  clear hb1 K1 HW0 U0 BS BN BR HA
  have k2 := Lib.hid fun (A9 : Option Addr) (c9 : Nat) => (copyQueue_n A9 [] 0 c9 w1 w1.heap.size (Nat.le_refl _) rfl (by omega) Wts.empty (fun _ h => by cases h) (Jb.due now []) rfl)
  go_wp2_with fail
  refine (k2.out _ _).mono ?_
  rintro e w2 ⟨A1, c1, l1, rfl, hm1, hq1, hb2⟩
  have HM1 := Lib.hid hm1
  have Q1 := Lib.hid hq1.wtsIn
  have HL1 := Lib.hid hq1.len
  have HCA : Hid (l1.length ≤ c1 ∧ c1 ≤ maxLen) := Lib.hid ⟨by rw [hq1.len]; exact hq1.own.cap, Owns.capm hq1.own⟩
  have U2 := Lib.hid (U1.out.later hb2)
  have BS2 := Lib.hid (BS1.out.later hb2)
  have BN2 := Lib.hid (BN1.out.later hb2)
  have BR2 := Lib.hid (BR1.out.later hb2)
  have HA2 := Lib.hid (HA1.out.later hb2)
  have hs1 := BR1.out.lt
  have hs2 := hb2.size
  have k3 := Lib.hid fun (A9 : Option Addr) (c9 : Nat) => (copyQueue_n A9 [] 0 c9 w2 w2.heap.size (Nat.le_refl _) rfl (by omega) Wts.empty (fun _ h => by cases h) (Jb.left now []) rfl)
  clear hb2 hm1 hq1 U1 BS1 BN1 BR1 HA1 k2
  clear g10
  have g10 := BS2.out.at 10 _ rfl
  go_wp2_with fail
  refine (k3.out _ _).mono ?_
  rintro e w3 ⟨A2, c2, l2, rfl, hm2, hq2, hb3⟩
  have HM2 := Lib.hid hm2
  have Q2 := Lib.hid hq2
  have Q1' := Lib.hid (Q1.out.below hb3 (Nat.le_refl _))
  have U3 := Lib.hid (U2.out.later hb3)
  have BS3 := Lib.hid (BS2.out.later hb3)
  have BN3 := Lib.hid (BN2.out.later hb3)
  have BR3 := Lib.hid (BR2.out.later hb3)
  have hs3 := hb3.size
  clear hb3 hm2 hq2 U2 BS2 BN2 BR2 HA2 k3 Q1 g10
  have f13 := BS3.out.at 13 _ rfl
  have f10 := BS3.out.at 10 _ rfl
  have fz := BS3.out.frozen
  go_wp2_with fail
  go_loopg [38] 0 (fun gk i wr => ∃ k : Nat, gk + k = 0 ∧ i = .int .i64 k ∧ Hid (Blk wr w.heap.size 40 #[.int .i64 le, .int .i64 mo, .int .i64 nw, .bool on, .int .i64 ze, .int .i64 fi, .int .i64 hi, .int .i64 (Jb.maxSq dn (([] : List Jb.Wt))), .int .i64 sp, .int .i64 tr, .slice A2 0 c2, .int .i64 la, .int .i64 tw, .int .i64 pd]) ∧ Hid (Blk wr (w.heap.size + 1) 3 #[.int .i64 now]) ∧ Hid (Blk wr (w.heap.size + 1 + 1) 40 #[.int .i64 0, .int .i64 0, .int .i64 0, .bool false, .int .i64 0, .int .i64 0, .int .i64 0, .int .i64 0, .int .i64 0, .int .i64 0, .slice none 0 0, .int .i64 0, .int .i64 0, .int .i64 0]) ∧ Hid (WtsIn wr w1.heap.size w2.heap.size A1 l1) ∧ Hid (QOwn wr w2.heap.size A2 0 c2 l2) ∧ Hid (Bel w wr) ∧ Hid (w2.heap.size ≤ wr.heap.size))
  case atStart =>
    refine ⟨0, rfl, rfl, Lib.hid ?_, Lib.hid ?_, Lib.hid ?_, Lib.hid ?_, Lib.hid ?_, Lib.hid ?_, Lib.hid ?_⟩
    · exact (BS3.out.set_ 10 (.slice A2 0 c2)).set_ 13 (.int .i64 pd)
    · exact (BN3.out.far (by simp) _).far (by simp) _
    · exact (BR3.out.far (by simp; omega) _).far (by simp; omega) _
    · exact (Q1'.out.setCell (by simp; omega) _).setCell (by simp; omega) _
    · exact (Q2.out.setCell (by simp; omega) _).setCell (by simp; omega) _
    · exact below_set_old (below_set_old U3.out (Nat.le_refl _) _) (Nat.le_refl _) _
    · simpa [World.setCell] using hs3
  case round =>
    obtain ⟨k, hgk, rfl, BSr, BNr, BRr, W1r, Q2r, Ur, HSr⟩ := hrel
    have hi0 : (0 : Int) ≤ (k : Int) := by omega
    have hz0 := BSr.out.lt
    have fzr := BSr.out.frozen
    by_cases hk : k < 0
    rotate_left
    · obtain rfl : k = 0 := by omega
      have hi1 : (0 : Int) ≤ (0 : Int) := Int.le_refl _
      have p0 := BSr.out.at 0 _ rfl
      have p1 := BSr.out.at 1 _ rfl
      have p2 := BSr.out.at 2 _ rfl
      have p3 := BSr.out.at 3 _ rfl
      have p4 := BSr.out.at 4 _ rfl
      have p5 := BSr.out.at 5 _ rfl
      have p6 := BSr.out.at 6 _ rfl
      have p7 := BSr.out.at 7 _ rfl
      have p8 := BSr.out.at 8 _ rfl
      have p9 := BSr.out.at 9 _ rfl
      have p10 := BSr.out.at 10 _ rfl
      have p11 := BSr.out.at 11 _ rfl
      have p12 := BSr.out.at 12 _ rfl
      have p13 := BSr.out.at 13 _ rfl
      have r0 := BRr.out.at 0 _ rfl
      have r1 := BRr.out.at 1 _ rfl
      have r2 := BRr.out.at 2 _ rfl
      have r3 := BRr.out.at 3 _ rfl
      have r4 := BRr.out.at 4 _ rfl
      have r5 := BRr.out.at 5 _ rfl
      have r6 := BRr.out.at 6 _ rfl
      have r7 := BRr.out.at 7 _ rfl
      have r8 := BRr.out.at 8 _ rfl
      have r9 := BRr.out.at 9 _ rfl
      have r10 := BRr.out.at 10 _ rfl
      have r11 := BRr.out.at 11 _ rfl
      have r12 := BRr.out.at 12 _ rfl
      have r13 := BRr.out.at 13 _ rfl
      have n0 := BNr.out.at 0 _ rfl
      have rfz := BRr.out.frozen
      go_wp2_with fail
      have BF := Blk.setRow (BRr.out.far (p := ⟨w.heap.size, 2, none⟩) (by simp; omega) (.int .i64 now)) [.int .i64 le, .int .i64 mo, .int .i64 now, .bool on, .int .i64 ze, .int .i64 fi, .int .i64 hi, .int .i64 (Jb.maxSq dn []), .int .i64 sp, .int .i64 tr, .slice A2 0 c2, .int .i64 la, .int .i64 tw, .int .i64 pd] rfl
      have QF := QOwn.setRow (g := w.heap.size + 1 + 1) (by omega) [.int .i64 le, .int .i64 mo, .int .i64 now, .bool on, .int .i64 ze, .int .i64 fi, .int .i64 hi, .int .i64 (Jb.maxSq dn []), .int .i64 sp, .int .i64 tr, .slice A2 0 c2, .int .i64 la, .int .i64 tw, .int .i64 pd] _ 0 (Q2r.out.setCell (p := ⟨w.heap.size, 2, none⟩) (by simp; omega) (.int .i64 now))
      have WF := WtsIn.setRow (g := w.heap.size + 1 + 1) (by omega) [.int .i64 le, .int .i64 mo, .int .i64 now, .bool on, .int .i64 ze, .int .i64 fi, .int .i64 hi, .int .i64 (Jb.maxSq dn []), .int .i64 sp, .int .i64 tr, .slice A2 0 c2, .int .i64 la, .int .i64 tw, .int .i64 pd] _ 0 (W1r.out.setCell (p := ⟨w.heap.size, 2, none⟩) (by simp; omega) (.int .i64 now))
      have UF := below_setRow (g := w.heap.size + 1 + 1) (by omega) [.int .i64 le, .int .i64 mo, .int .i64 now, .bool on, .int .i64 ze, .int .i64 fi, .int .i64 hi, .int .i64 (Jb.maxSq dn []), .int .i64 sp, .int .i64 tr, .slice A2 0 c2, .int .i64 la, .int .i64 tw, .int .i64 pd] _ 0 (below_set_old (p := ⟨w.heap.size, 2, none⟩) Ur.out (Nat.le_refl _) (.int .i64 now))
      have SF := setRow_size (w.heap.size + 1 + 1) [.int .i64 le, .int .i64 mo, .int .i64 now, .bool on, .int .i64 ze, .int .i64 fi, .int .i64 hi, .int .i64 (Jb.maxSq dn []), .int .i64 sp, .int .i64 tr, .slice A2 0 c2, .int .i64 la, .int .i64 tw, .int .i64 pd] (wr.setCell ⟨w.heap.size, 2, none⟩ (.int .i64 now)) 0
      obtain ⟨W, hW⟩ : ∃ W, W = setRow (w.heap.size + 1 + 1) (wr.setCell ⟨w.heap.size, 2, none⟩ (.int .i64 now)) 0 [.int .i64 le, .int .i64 mo, .int .i64 now, .bool on, .int .i64 ze, .int .i64 fi, .int .i64 hi, .int .i64 (Jb.maxSq dn []), .int .i64 sp, .int .i64 tr, .slice A2 0 c2, .int .i64 la, .int .i64 tw, .int .i64 pd] := ⟨_, rfl⟩
      rw [← hW] at BF QF WF UF SF
      simp only [setRow, Nat.zero_add, Nat.reduceAdd] at hW
      rw [← hW]
      have hl2 : l2.length = 0 := Q2r.out.len
      have hl1 : l1.length = 0 := HL1.out
      rw [← hl2] at BF QF
      exact bodyPost_ret (v := .tuple #[.agg (List.toArray [.int .i64 le, .int .i64 mo, .int .i64 now, .bool on, .int .i64 ze, .int .i64 fi, .int .i64 hi, .int .i64 (Jb.maxSq dn []), .int .i64 sp, .int .i64 tr, .slice A2 l2.length c2, .int .i64 la, .int .i64 tw, .int .i64 pd]), .slice A1 0 c1]) (res_ct Tryz.results102 rfl (run_loadVar_row (P := Tryz.prog) _ _ _ _ _ _ _ BF Tryz.underlying40 rfl (by kernel_rfl)) rfl) rfl ⟨A1, c1, l1, A2, c2, l2, w2.heap.size, by rw [hl1, show ((Jb.due now []).length : Int) = 0 from rfl, Int.add_zero]; rfl, HM1.out, HM2.out, WF.less (by omega), QF, by omega, by have := HSr.out; rw [SF]; simpa [World.setCell] using this, HCA.out, UF⟩
    exact absurd hk (by omega)
end Go.Proofs.YtahbecinkciahaaGreat
/- A look-up of a bool in a map that the call has made, at the operation; over any program. -/
namespace Go.Proofs.YtahbecinkciahaaGreat
open Go Go.RowKit
open Go.Maps (Keyed)
set_option linter.unusedVariables false
theorem plainElem_bool_inv {H : Type} {P : Program} {e : TypeId} (he : P.underlying e = some .bool) {v : Value} {z : DataW H × List MemPlace} (h : plainElem P e v = some z) : ∃ x, v = .bool x ∧ z = (.lit (.bool x), []) := by
  unfold plainElem at h
  rw [he] at h
  cases v <;> simp at h
  case bool x => exact ⟨x, rfl, h.symm⟩
/-- the numbers that have been seen -/
def sqMap (H : Type) (l : List Int) : DataW H := l.foldl (fun D s => D.put (.int .i64 s) (.lit (.bool true))) (.map [])
theorem sqMap_snoc (H : Type) (l : List Int) (s : Int) : sqMap H (l ++ [s]) = (sqMap H l).put (.int .i64 s) (.lit (.bool true)) := by simp [sqMap, List.foldl_append]
theorem sqMap_is (H : Type) : ∀ (n : Nat) (l : List Int), l.length = n → Maps.IsMap (sqMap H l)
  | 0, l, h => by
    obtain rfl := List.eq_nil_of_length_eq_zero h
    exact Maps.isMap_empty
  | n + 1, l0, h => by
    obtain ⟨l, s, rfl⟩ : ∃ a b, l0 = a ++ [b] := ⟨l0.dropLast, l0.getLast (by intro e; rw [e] at h; simp at h), (List.dropLast_concat_getLast _).symm⟩
    rw [sqMap_snoc]
    exact (sqMap_is H n l (by simpa using h)).put _ _
theorem sqMap_at (H : Type) (s : Int) : ∀ (n : Nat) (l : List Int), l.length = n → (sqMap H l).atKey (.int .i64 s) (.lit (.bool false)) = .lit (.bool (l.any fun x => x == s))
  | 0, l, h => by
    obtain rfl := List.eq_nil_of_length_eq_zero h
    rfl
  | n + 1, l0, h => by
    obtain ⟨l, x, rfl⟩ : ∃ a b, l0 = a ++ [b] := ⟨l0.dropLast, l0.getLast (by intro e; rw [e] at h; simp at h), (List.dropLast_concat_getLast _).symm⟩
    have hl : l.length = n := by simpa using h
    rw [sqMap_snoc]
    by_cases hx : x = s
    · subst hx
      rw [Maps.atKey_put_same (k := .int .i64 x) (sqMap_is H n l hl) (by unfold WideAt.IsKeyLit; trivial)]
      simp
    · rw [Maps.atKey_put_other (fun e => hx (by injection e with _ e; exact e.symm)), sqMap_at H s n l hl]
      simp [hx]
end Go.Proofs.YtahbecinkciahaaGreat
/- Layer 30: what a valid state is, and that Run and Put keep it; no program in sight. -/
namespace Go.Proofs.YtahbecinkciahaaGreat.Jb
open Go.RowKit
set_option linter.unusedVariables false
def Fine (now high : Int) (w : Wt) : Prop := w.m.ok ∧ now < w.at_ ∧ w.at_ ≤ 562949953421312 ∧ w.m.sq ≤ high
theorem getD_eq {q : List Wt} {k : Nat} (h : k < q.length) : q.getD k Wt.zero = q[k] := by simp [List.getD_eq_getElem?_getD, h]
theorem okQ_iff (now high : Int) (q : List Wt) : okQ now high q ↔ q.length ≤ 200 ∧ (∀ w ∈ q, Fine now high w) ∧ q.Pairwise bef ∧ q.Pairwise (fun a b => a.m.sq ≠ b.m.sq) := by
  constructor
  · intro h
    refine ⟨h.1, fun w hw => ?_, ?_, ?_⟩
    · obtain ⟨k, hk, rfl⟩ := List.getElem_of_mem hw
      obtain ⟨a, b, c, d, _⟩ := h.2 k hk
      rw [getD_eq hk] at a b c d
      exact ⟨a, b, c, d⟩
    · refine List.pairwise_iff_getElem.2 fun i j hi hj hij => ?_
      have := h.asc i j hij hj
      rwa [getD_eq hi, getD_eq hj] at this
    · refine List.pairwise_iff_getElem.2 fun i j hi hj hij => ?_
      have := (h.2 j hj).2.2.2.2.2 i hij
      rwa [getD_eq hi, getD_eq hj] at this
  · rintro ⟨h1, h2, h3, h4⟩
    refine ⟨h1, fun k hk => ?_⟩
    obtain ⟨a, b, c, d⟩ := h2 _ (List.getElem_mem hk)
    unfold okAt
    rw [getD_eq hk]
    refine ⟨a, b, c, d, fun h0 => ?_, fun i hi => ?_⟩
    · rw [getD_eq (show k - 1 < q.length by omega)]
      exact List.pairwise_iff_getElem.1 h3 (k - 1) k (by omega) hk (by omega)
    · rw [getD_eq (show i < q.length by omega)]
      exact List.pairwise_iff_getElem.1 h4 i k (by omega) hk hi
theorem left_gt (now : Int) : ∀ q : List Wt, q.Pairwise bef → ∀ w ∈ left now q, now < w.at_
  | [], _, w, hw => by cases hw
  | a :: q, h, w, hw => by
    unfold left at hw
    rw [List.dropWhile_cons] at hw
    by_cases ha : a.at_ ≤ now
    · rw [if_pos (by simpa using ha)] at hw
      exact left_gt now q (List.pairwise_cons.1 h).2 w hw
    · rw [if_neg (by simpa using ha)] at hw
      rcases List.mem_cons.1 hw with rfl | hw
      · omega
      · have := bef_at ((List.pairwise_cons.1 h).1 w hw)
        omega
theorem left_sub (now : Int) (q : List Wt) : List.Sublist (left now q) q := List.dropWhile_sublist _
theorem due_sub (now : Int) (q : List Wt) : List.Sublist (due now q) q := List.takeWhile_sublist _
theorem maxSq_bd (hi : Int) : ∀ (l : List Wt) (d : Int), (∀ w ∈ l, w.m.sq ≤ hi) → d ≤ hi → d ≤ maxSq d l ∧ maxSq d l ≤ hi
  | [], d, _, h => ⟨Int.le_refl _, h⟩
  | a :: l, d, h, hd => by
    have h1 := h a List.mem_cons_self
    obtain ⟨e1, e2⟩ := maxSq_bd hi l (max d a.m.sq) (fun w hw => h w (List.mem_cons_of_mem _ hw)) (by omega)
    show d ≤ maxSq (max d a.m.sq) l ∧ maxSq (max d a.m.sq) l ≤ hi
    omega
theorem run0_ok (s : Jt) (now : Int) (h : s.ok) (h1 : s.now ≤ now) (h2 : now ≤ 281474976710656) (h3 : s.played + (due now s.q).length ≤ 281474976710656) : (run0 s now).ok := by
  obtain ⟨⟨a1, a2, a3, a4, a5, a6, a7⟩, hc, ⟨b1, b2, b3⟩, hr, hq⟩ := h
  obtain ⟨q1, q2, q3, q4⟩ := (okQ_iff _ _ _).1 hq
  have hm := maxSq_bd (max s.done s.high) (due now s.q) s.done (fun w hw => by have := (q2 w ((due_sub now s.q).subset hw)).2.2.2; omega) (by omega)
  have hl : (left now s.q).length ≤ s.q.length := (left_sub now s.q).length_le
  refine ⟨⟨⟨by show 0 ≤ now; omega, h2⟩, a2, a3, a4, a5, ⟨by show -1 ≤ maxSq _ _; omega, by show maxSq _ _ ≤ _; omega⟩, a7⟩, hc, ⟨b1, b2, ⟨by show 0 ≤ s.played + _; omega, h3⟩⟩, ?_, ?_⟩
  · rcases hr with hr | ⟨r1, r2, r3⟩
    · exact Or.inl hr
    · right
      have e : s.q = [] := List.eq_nil_of_length_eq_zero r1
      show (left now s.q).length = 0 ∧ s.high = -1 ∧ maxSq s.done (due now s.q) = -1
      rw [e]
      exact ⟨rfl, r2, r3⟩
  · refine (okQ_iff _ _ _).2 ⟨by show (left now s.q).length ≤ 200; omega, fun w hw => ?_, q3.sublist (left_sub now s.q), q4.sublist (left_sub now s.q)⟩
    obtain ⟨f1, f2, f3, f4⟩ := q2 w ((left_sub now s.q).subset hw)
    exact ⟨f1, left_gt now s.q q3 w hw, f3, f4⟩
end Go.Proofs.YtahbecinkciahaaGreat.Jb
namespace Go.Proofs.YtahbecinkciahaaGreat.Jb
open Go.RowKit
set_option linter.unusedVariables false
theorem lastAt_bd (z now high : Int) (q : List Wt) (h : okQ now high q) (z0 : 0 ≤ z) (z1 : z ≤ 562949953421313) : z ≤ lastAt z q ∧ lastAt z q ≤ 562949953421313 := by
  unfold lastAt
  by_cases h0 : q.length = 0
  · rw [if_pos h0]; omega
  · rw [if_neg h0]
    have := (h.2 (q.length - 1) (by omega)).2.2.1
    omega
theorem spread_bd (sp d : Int) (h0 : 0 ≤ sp) (h1 : sp ≤ 72057594037927936) (d0 : 0 ≤ d) (d1 : d ≤ 2251799813685248) : 0 ≤ sp + d - (sp + 8) / 16 ∧ sp + d - (sp + 8) / 16 ≤ 72057594037927936 := by omega
theorem meas_ok (s : Jt) (m : Md) (h : s.ok) (hm : m.ok) : (meas s m).ok := by
  obtain ⟨⟨a1, a2, a3, a4, a5, a6, a7⟩, hc, hk, hr, hq⟩ := h
  obtain ⟨m1, m2, m3⟩ := hm
  obtain ⟨c1, c2, c3⟩ := hc
  have hsp : ∀ (on : Bool), 0 ≤ (if on then s.spread + max (s.now - m.ti / 8 - s.trans) (s.trans - (s.now - m.ti / 8)) - (s.spread + 8) / 16 else s.spread) ∧ (if on then s.spread + max (s.now - m.ti / 8 - s.trans) (s.trans - (s.now - m.ti / 8)) - (s.spread + 8) / 16 else s.spread) ≤ 72057594037927936 := fun on => by
    cases on
    · exact a7
    · exact spread_bd s.spread _ a7.1 a7.2 (by omega) (by omega)
  have hs := hsp s.on
  have hz := lastAt_bd (s.now + min (s.least + (if s.on then s.spread + max (s.now - m.ti / 8 - s.trans) (s.trans - (s.now - m.ti / 8)) - (s.spread + 8) / 16 else s.spread) / 4) s.most) s.now s.high s.q hq (by omega) (by omega)
  unfold meas
  refine ⟨⟨a1, ?_, ⟨by show -1125899906842624 ≤ s.now - m.ti / 8; omega, by show s.now - m.ti / 8 ≤ 1125899906842624; omega⟩, ?_, ⟨by show -1 ≤ max s.high m.sq; omega, by show max s.high m.sq ≤ 281474976710656; omega⟩, a6, hs⟩, ⟨c1, c2, c3⟩, hk, Or.inl rfl, ?_⟩
  · show -1125899906842624 ≤ (if _ then _ else s.zero) ∧ (if _ then _ else s.zero) ≤ 1125899906842624
    split
    · exact ⟨Int.le_trans (by omega) hz.1, Int.le_trans hz.2 (by omega)⟩
    · exact a2
  · show -281474976710656 ≤ (if _ then m.ti else s.first) ∧ (if _ then m.ti else s.first) ≤ 281474976710656
    split
    · exact m2
    · exact a4
  · obtain ⟨q1, q2, q3, q4⟩ := (okQ_iff _ _ _).1 hq
    refine (okQ_iff _ _ _).2 ⟨q1, fun w hw => ?_, q3, q4⟩
    obtain ⟨f1, f2, f3, f4⟩ := q2 w hw
    exact ⟨f1, f2, f3, by show w.m.sq ≤ max s.high m.sq; omega⟩
theorem meas_q (s : Jt) (m : Md) : (meas s m).q = s.q ∧ (meas s m).now = s.now ∧ (meas s m).late = s.late ∧ (meas s m).twice = s.twice ∧ (meas s m).played = s.played ∧ (meas s m).high = max s.high m.sq ∧ (meas s m).on = true ∧ (meas s m).done = s.done ∧ (meas s m).least = s.least ∧ (meas s m).most = s.most := ⟨rfl, rfl, rfl, rfl, rfl, rfl, rfl, rfl, rfl, rfl⟩
theorem cnt_ok (s : Jt) (h : s.ok) (l t p : Int) (hl : 0 ≤ l ∧ l ≤ 281474976710656) (ht : 0 ≤ t ∧ t ≤ 281474976710656) (hp : 0 ≤ p ∧ p ≤ 281474976710656) : ({ s with late := l, twice := t, played := p } : Jt).ok :=
  ⟨h.1, h.2.1, ⟨hl, ht, hp⟩, h.2.2.2.1, h.2.2.2.2⟩
end Go.Proofs.YtahbecinkciahaaGreat.Jb
