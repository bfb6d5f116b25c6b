/- Layer 30: the comparisons, of equal things. -/
import Derived.Test.YtnaafjdnmbajjaaJtPutAllQ
namespace Go.Proofs.Ytnaafjdnmbajjaa
open Go.RowKit
set_option linter.unusedVariables false
set_option linter.unusedSimpArgs false
attribute [local go_sem ↓] run_min_plain run_max_plain
attribute [local go_sem] setCell_drewN alloc_drewN
set_option maxRecDepth 100000 in
set_option maxHeartbeats 12800000 in
theorem rsm_any (sq ti : Int) (mk : Bool) (ty : Int) (pl : List Int) (A B : Option Addr) (c d : Nat) (w : World) (hA : IntsAt w w.heap.size .u8 A pl) (hB : IntsAt w w.heap.size .u8 B pl) : Calls Try.prog 41 #[.agg #[.int .i64 sq, .int .i64 ti, .bool mk, .int .u8 ty, .slice A pl.length c], .agg #[.int .i64 sq, .int .i64 ti, .bool mk, .int .u8 ty, .slice B pl.length d]] w fun e w' => e = .returned (.bool true) ∧ Below w.heap.size w w' := by
  have hb : Bel w ((w.alloc (.cells #[.int .i64 sq, .int .i64 ti, .bool mk, .int .u8 ty, .slice A pl.length c] 29)).alloc (.cells #[.int .i64 sq, .int .i64 ti, .bool mk, .int .u8 ty, .slice B pl.length d] 29)) := ((Bel.refl w).push _).push _
  have v1 := run_convert_ints (P := Try.prog) (hA.below hb) 27 9 5 Try.underlying27 Try.underlying5 Try.underlying9 pl.length c rfl
  have v2 := run_convert_ints (P := Try.prog) (hB.below hb) 27 9 5 Try.underlying27 Try.underlying5 Try.underlying9 pl.length d rfl
  have U := Lib.hid hb
  clear hb hA hB
  go_enter Try.func41, Try.ntmps41
  go_wp2_with fail
  go_ret
  exact ⟨by first | rfl | simp, U.out⟩
set_option maxRecDepth 100000 in
set_option maxHeartbeats 12800000 in
theorem rsw_any (A B : Option Addr) (l1 l2 : List TW) (n c d : Nat) (w : World) (hn : l1.length = n) (heq : l1.map TW.w = l2.map TW.w) (hl : n ≤ 1000000) (hA : Wts w w.heap.size A l1) (hB : Wts w w.heap.size B l2) : Calls Try.prog 16 #[.slice A n c, .slice B n d] w fun e w' => e = .returned (.bool true) ∧ Below w.heap.size w w' := by
  subst hn
  have hl2 : l2.length = l1.length := by have := congrArg List.length heq; simpa using this.symm
  have HL2 := Lib.hid hl2
  have HEQ := Lib.hid heq
  have HA := Lib.hid hA
  have HB := Lib.hid hB
  clear hl2 heq hA hB
  go_enter Try.func16, Try.ntmps16
  go_wp2_with fail
  go_loopg [5] l1.length (fun gk i wr => ∃ k : Nat, gk + k = l1.length ∧ i = .int .i64 k ∧ Hid (Bel w wr))
  case atStart => exact ⟨0, rfl, rfl, Lib.hid (Bel.refl w)⟩
  case round =>
    obtain ⟨k, hgk, rfl, U⟩ := hrel
    have hi0 : (0 : Int) ≤ (k : Int) := by omega
    by_cases hk : k < l1.length
    rotate_left
    · obtain rfl : k = l1.length := by omega
      have hi1 : (l1.length : Int) ≤ (l1.length : Int) := Int.le_refl _
      go_wp2_with fail
      go_ret
      exact ⟨by first | rfl | simp, U.out⟩
    have hi1 : (k : Int) < (l1.length : Int) := by omega
    obtain ⟨a, ha⟩ : ∃ a, l1[k]? = some a := ⟨_, List.getElem?_eq_getElem hk⟩
    obtain ⟨a2, ha2⟩ : ∃ a, l2[k]? = some a := ⟨_, List.getElem?_eq_getElem (by have := HL2.out; omega)⟩
    have hww : a.w = a2.w := by
      have h1 : (l1.map TW.w)[k]? = some a.w := by rw [List.getElem?_map, ha]; rfl
      have h2 : (l2.map TW.w)[k]? = some a2.w := by rw [List.getElem?_map, ha2]; rfl
      rw [HEQ.out, h2] at h1
      injection h1 with h1
      exact h1.symm
    obtain ⟨b, off, rfl, hbB, e0, e1, e2, e3, e4, e5⟩ := rowsW (HA.out.1.keep (fun p hp => U.out.cell hp)) ha
    obtain ⟨b', off', rfl, hbB', q0, q1, q2, q3, q4, q5⟩ := rowsW (HB.out.1.keep (fun p hp => U.out.cell hp)) ha2
    have p1 := (HA.out.2 a (List.mem_of_getElem? ha)).keep (w' := wr) (fun p hp => U.out.cell hp)
    have p2 := (HB.out.2 a2 (List.mem_of_getElem? ha2)).keep (w' := wr) (fun p hp => U.out.cell hp)
    rw [← hww] at q0 q1 q2 q3 q4 q5 p2
    obtain ⟨⟨at0, ⟨sq0, ti0, mk0, ty0, pl0⟩⟩, B0, c0⟩ := a
    obtain ⟨x2, B2, c2⟩ := a2
    simp only at e0 e1 e2 e3 e4 e5 q0 q1 q2 q3 q4 q5 p1 p2
    have hbs := U.out.size
    have k1 := Lib.hid fun (W : World) (hW : Below wr.heap.size wr W) => rsm_any sq0 ti0 mk0 ty0 pl0 B0 B2 c0 c2 W (((p1.more hbs).below hW).more hW.size) (((p2.more hbs).below hW).more hW.size)
    have hU : Below wr.heap.size wr wr := Below.refl _ _
    have hb1 : b < wr.heap.size := by omega
    have hb2 : b' < wr.heap.size := by omega
    clear ha ha2 hww p1 p2
    go_wp2_with fail
    first
      | go_region_held3 (fun w' => Below wr.heap.size wr w' ∧ w'.cell? ⟨b, off + k * 6, none⟩ = some (.int .i64 at0) ∧ w'.cell? ⟨b, off + k * 6 + 1, none⟩ = some (.int .i64 sq0) ∧ w'.cell? ⟨b, off + k * 6 + 1 + 1, none⟩ = some (.int .i64 ti0) ∧ w'.cell? ⟨b, off + k * 6 + 1 + 2, none⟩ = some (.bool mk0) ∧ w'.cell? ⟨b, off + k * 6 + 1 + 3, none⟩ = some (.int .u8 ty0) ∧ w'.cell? ⟨b, off + k * 6 + 1 + 4, none⟩ = some (.slice B0 pl0.length c0) ∧ w'.cell? ⟨b', off' + k * 6, none⟩ = some (.int .i64 at0) ∧ w'.cell? ⟨b', off' + k * 6 + 1, none⟩ = some (.int .i64 sq0) ∧ w'.cell? ⟨b', off' + k * 6 + 1 + 1, none⟩ = some (.int .i64 ti0) ∧ w'.cell? ⟨b', off' + k * 6 + 1 + 2, none⟩ = some (.bool mk0) ∧ w'.cell? ⟨b', off' + k * 6 + 1 + 3, none⟩ = some (.int .u8 ty0) ∧ w'.cell? ⟨b', off' + k * 6 + 1 + 4, none⟩ = some (.slice B2 pl0.length c2))
          (first | assumption | ((try go_split_ands); refine and_dep ?_ (fun hbX => ⟨cell_old hbX e0, cell_old hbX e1, cell_old hbX e2, cell_old hbX e3, cell_old hbX e4, cell_old hbX e5, cell_old hbX q0, cell_old hbX q1, cell_old hbX q2, cell_old hbX q3, cell_old hbX q4, cell_old hbX q5⟩); (with_reducible repeat first | assumption | exact below_old' (by assumption) (by assumption) | refine Below.drew ?_ | refine below_new_old ?_ _)))
          (first | (go_at_call 41; refine (k1.out _ (by (try go_split_ands); assumption)).mono ?_; rintro e w' ⟨rfl, hbel⟩; have hbw : Below wr.heap.size wr w' := below_old' hbel (by (try go_split_ands); assumption); obtain ⟨hcc, hff⟩ := bcell hbel))
      | fail
    all_goals
      have UZ := Lib.hid (U.out.later hbw)
      clear hcc hff hbw hbel e0 e1 e2 e3 e4 e5 q0 q1 q2 q3 q4 q5
      go_wp2_with fail
      go_roundg (gk - 1)
      case measure => omega
      case rel => exact ⟨k + 1, by omega, by go_num, UZ⟩
set_option maxRecDepth 100000 in
set_option maxHeartbeats 12800000 in
theorem rsame_any (s : Jb.Jt) (A B : Option Addr) (l1 l2 : List TW) (n c d : Nat) (w : World) (hn : l1.length = n) (heq : l1.map TW.w = l2.map TW.w) (hl : n ≤ 1000000) (hA : Wts w w.heap.size A l1) (hB : Wts w w.heap.size B l2) : Calls Try.prog 15 #[.agg #[.int .i64 s.least, .int .i64 s.most, .int .i64 s.now, .bool s.on, .int .i64 s.zero, .int .i64 s.first, .int .i64 s.high, .int .i64 s.done, .int .i64 s.spread, .int .i64 s.trans, .slice A n c, .int .i64 s.late, .int .i64 s.twice, .int .i64 s.played], .agg #[.int .i64 s.least, .int .i64 s.most, .int .i64 s.now, .bool s.on, .int .i64 s.zero, .int .i64 s.first, .int .i64 s.high, .int .i64 s.done, .int .i64 s.spread, .int .i64 s.trans, .slice B n d, .int .i64 s.late, .int .i64 s.twice, .int .i64 s.played]] w fun e w' => e = .returned (.bool true) ∧ Below w.heap.size w w' := by
  have U := Lib.hid (((Bel.refl w).push (.cells #[.int .i64 s.least, .int .i64 s.most, .int .i64 s.now, .bool s.on, .int .i64 s.zero, .int .i64 s.first, .int .i64 s.high, .int .i64 s.done, .int .i64 s.spread, .int .i64 s.trans, .slice A n c, .int .i64 s.late, .int .i64 s.twice, .int .i64 s.played] 26)).push (.cells #[.int .i64 s.least, .int .i64 s.most, .int .i64 s.now, .bool s.on, .int .i64 s.zero, .int .i64 s.first, .int .i64 s.high, .int .i64 s.done, .int .i64 s.spread, .int .i64 s.trans, .slice B n d, .int .i64 s.late, .int .i64 s.twice, .int .i64 s.played] 26))
  have k1 := Lib.hid (rsw_any A B l1 l2 n c d _ hn heq hl ((hA.below U.out).more U.out.size) ((hB.below U.out).more U.out.size))
  clear hA hB heq hn
  go_enter Try.func15, Try.ntmps15
  go_wp2_with fail
  refine k1.out.mono ?_
  rintro e w1 ⟨rfl, hb1⟩
  have U1 := Lib.hid (U.out.later hb1)
  clear hb1
  go_wp2_with fail
  go_ret
  exact ⟨by first | rfl | simp, U1.out⟩
end Go.Proofs.Ytnaafjdnmbajjaa
/- Layer 30: few, media. -/
namespace Go.Proofs.Ytnaafjdnmbajjaa
open Go.RowKit
set_option linter.unusedVariables false
set_option linter.unusedSimpArgs false
attribute [local go_sem ↓] run_min_plain run_max_plain
attribute [local go_sem] setCell_drewN alloc_drewN
set_option maxRecDepth 100000 in
set_option maxHeartbeats 12800000 in
theorem few_any (s : Jb.Jt) (A : Option Addr) (l : List TW) (n c : Nat) (w : World) (hn : l.length = n) (hA : Wts w w.heap.size A l) (v : Bool) (hv : v = decide (l.length ≤ 220 ∧ ∀ a ∈ l, a.w.m.pl.length ≤ 2000)) : Calls Try.prog 9 #[.agg #[.int .i64 s.least, .int .i64 s.most, .int .i64 s.now, .bool s.on, .int .i64 s.zero, .int .i64 s.first, .int .i64 s.high, .int .i64 s.done, .int .i64 s.spread, .int .i64 s.trans, .slice A n c, .int .i64 s.late, .int .i64 s.twice, .int .i64 s.played]] w fun e w' => e = .returned (.bool v) ∧ Below w.heap.size w w' := by
  subst hn
  have HA := Lib.hid hA
  have HV := Lib.hid hv
  clear hA hv
  have BS := Lib.hid (Blk.new w 26 #[.int .i64 s.least, .int .i64 s.most, .int .i64 s.now, .bool s.on, .int .i64 s.zero, .int .i64 s.first, .int .i64 s.high, .int .i64 s.done, .int .i64 s.spread, .int .i64 s.trans, .slice A l.length c, .int .i64 s.late, .int .i64 s.twice, .int .i64 s.played])
  have U0 := Lib.hid ((Bel.refl w).push (.cells #[.int .i64 s.least, .int .i64 s.most, .int .i64 s.now, .bool s.on, .int .i64 s.zero, .int .i64 s.first, .int .i64 s.high, .int .i64 s.done, .int .i64 s.spread, .int .i64 s.trans, .slice A l.length c, .int .i64 s.late, .int .i64 s.twice, .int .i64 s.played] 26))
  by_cases h220 : l.length ≤ 220
  rotate_left
  · have hv : v = false := by rw [HV.out, decide_eq_false_iff_not]; intro h; exact h220 h.1
    subst hv
    have h221 : (220 : Int) < (l.length : Int) := by omega
    go_enter Try.func9, Try.ntmps9
    go_wp2_with fail
    go_ret
    exact ⟨by first | rfl | simp, U0.out⟩
  have h221 : (l.length : Int) ≤ (220 : Int) := by omega
  go_enter Try.func9, Try.ntmps9
  go_wp2_with fail
  go_loopg [3] l.length (fun gk i wr => ∃ k : Nat, gk + k = l.length ∧ i = .int .i64 k ∧ Hid (∀ a ∈ l.take k, a.w.m.pl.length ≤ 2000) ∧ Hid (Blk wr w.heap.size 26 #[.int .i64 s.least, .int .i64 s.most, .int .i64 s.now, .bool s.on, .int .i64 s.zero, .int .i64 s.first, .int .i64 s.high, .int .i64 s.done, .int .i64 s.spread, .int .i64 s.trans, .slice A l.length c, .int .i64 s.late, .int .i64 s.twice, .int .i64 s.played]) ∧ Hid (Bel w wr))
  case atStart => exact ⟨0, rfl, rfl, Lib.hid (fun a h => by simp at h), BS, U0⟩
  case round =>
    clear BS U0
    obtain ⟨k, hgk, rfl, HT, BS, U⟩ := hrel
    have hi0 : (0 : Int) ≤ (k : Int) := by omega
    have g10 := BS.out.at 10 _ rfl
    by_cases hk : k < l.length
    rotate_left
    · obtain rfl : k = l.length := by omega
      have hi1 : (l.length : Int) ≤ (l.length : Int) := Int.le_refl _
      have hv : v = true := by rw [HV.out, decide_eq_true_iff]; exact ⟨h220, by have h9 := HT.out; rwa [List.take_of_length_le (Nat.le_refl _)] at h9⟩
      subst hv
      go_wp2_with fail
      go_ret
      exact ⟨by first | rfl | simp, U.out⟩
    have hi1 : (k : Int) < (l.length : Int) := by omega
    obtain ⟨a, ha⟩ : ∃ a, l[k]? = some a := ⟨_, List.getElem?_eq_getElem hk⟩
    obtain ⟨b, off, rfl, hbB, e0, e1, e2, e3, e4, e5⟩ := rowsW (HA.out.1.keep (fun p hp => U.out.cell hp)) ha
    have HAA := Lib.hid ha
    clear ha e0 e1 e2 e3 e4
    by_cases hpl : 2000 < a.w.m.pl.length
    · have hv : v = false := by rw [HV.out, decide_eq_false_iff_not]; intro h; have := h.2 a (List.mem_of_getElem? HAA.out); omega
      subst hv
      have hpl' : (2000 : Int) < (a.w.m.pl.length : Int) := by omega
      go_wp2_with fail
      go_ret
      exact ⟨by first | rfl | simp, U.out⟩
    · have hpl' : (a.w.m.pl.length : Int) ≤ (2000 : Int) := by omega
      have HPL := Lib.hid hpl
      clear hpl
      go_wp2_with fail
      go_roundg (gk - 1)
      case measure => omega
      case rel =>
        refine ⟨k + 1, by omega, by go_num, Lib.hid (fun x hx => ?_), BS, U⟩
        rw [List.take_add_one, HAA.out] at hx
        rcases List.mem_append.1 hx with hx | hx
        · exact HT.out x hx
        · simp at hx
          subst hx
          have := HPL.out
          omega
set_option maxRecDepth 100000 in
set_option maxHeartbeats 12800000 in
theorem media_any (sq ti : Int) (w : World) : Calls Try.prog 20 #[.int .i64 sq, .int .i64 ti] w fun e w' => e = .returned (.agg #[.int .i64 sq, .int .i64 ti, .bool false, .int .u8 0, .slice none 0 0]) ∧ Below w.heap.size w w' := by
  go_enter Try.func20, Try.ntmps20
  go_wp2_with fail
  exact bodyPost_ret (v := .agg #[.int .i64 sq, .int .i64 ti, .bool false, .int .u8 0, .slice none 0 0]) (res_c Try.results20 rfl (run_loadVar_row (P := Try.prog) _ _ _ _ _ _ _ (Blk.new w 29 #[.int .i64 sq, .int .i64 ti, .bool false, .int .u8 0, .slice none 0 0]) Try.underlying29 rfl (by kernel_rfl))) rfl ⟨rfl, (Bel.refl w).push _⟩
end Go.Proofs.Ytnaafjdnmbajjaa
/- Layer 30: a state in a variable of the law's own; lists that a call gave back. -/
namespace Go.Proofs.Ytnaafjdnmbajjaa
open Go.RowKit
set_option linter.unusedVariables false
set_option linter.unusedSimpArgs false
/-- the region number i of a body -/
def findRegJ (i : Nat) : Code → Option Code
  | .region j ops d => if i = j then some (.region j ops d) else none
  | .seq a b => match findRegJ i a with
    | some c => some c
    | none => findRegJ i b
  | .cond _ a b => match findRegJ i a with
    | some c => some c
    | none => findRegJ i b
  | .block _ c => findRegJ i c
  | .loop c => findRegJ i c
  | .scope c => findRegJ i c
  | _ => none
/-- the cells of a state -/
def JL (s : Jb.Jt) (A : Option Addr) (n c : Nat) : List Value := [.int .i64 s.least, .int .i64 s.most, .int .i64 s.now, .bool s.on, .int .i64 s.zero, .int .i64 s.first, .int .i64 s.high, .int .i64 s.done, .int .i64 s.spread, .int .i64 s.trans, .slice A n c, .int .i64 s.late, .int .i64 s.twice, .int .i64 s.played]
/-- the state s lies in block g; its queue is l -/
structure SBox (W : World) (g : Nat) (s : Jb.Jt) (A : Option Addr) (c : Nat) (l : List TW) : Prop where
  blk : Blk W g 26 (JL s A l.length c).toArray
  q : l.map TW.w = s.q
  cap : l.length ≤ c
  cm : c ≤ maxLen
  wts : Wts W W.heap.size A l
section
variable {W W' : World} {g c : Nat} {s : Jb.Jt} {A : Option Addr} {l : List TW}
theorem SBox.later (h : SBox W g s A c l) (hb : Below W.heap.size W W') : SBox W' g s A c l := ⟨h.blk.later hb, h.q, h.cap, h.cm, h.wts.later hb⟩
theorem SBox.push (h : SBox W g s A c l) (o : Obj) : SBox (W.alloc o) g s A c l := h.later ((Below.refl _ _).alloc (Nat.le_refl _) _)
theorem SBox.drew (h : SBox W g s A c l) : SBox W.drew g s A c l := ⟨h.blk.drew, h.q, h.cap, h.cm, h.wts⟩
end
/-- no cell is a byte -/
def NoU8 (cs : List Value) : Prop := ∀ v ∈ cs, ∀ z, v ≠ .int .u8 z
theorem JL_no (s : Jb.Jt) (A : Option Addr) (n c : Nat) : NoU8 (JL s A n c) := by
  intro v hv z e
  subst e
  simp [JL] at hv
theorem cell_ne {W : World} {g b i : Nat} {t : TypeId} {cs : List Value} {z : Int} (hb : Blk W g t cs.toArray) (hk : NoU8 cs) (hc : W.cell? ⟨b, i, none⟩ = some (.int .u8 z)) : b ≠ g := by
  rintro rfl
  rw [hb.cell] at hc
  have := List.mem_of_getElem? (l := cs) (i := i) (by simpa using hc)
  exact hk _ this z rfl
theorem Wts.keepNe {W W' : World} {n g : Nat} {t : TypeId} {cs : List Value} {A : Option Addr} {l : List TW} (h : Wts W n A l) (hb : Blk W g t cs.toArray) (hk : NoU8 cs) (hkeep : ∀ p : Addr, p.block ≠ g → W'.cell? p = W.cell? p) : Wts W' n A l := by
  refine ⟨fun h0 => ?_, fun a ha h0 => ?_⟩
  · obtain ⟨b, off, rfl, hlt, hc⟩ := h.1 h0
    have h4 := hc 0 l[0] (by rw [List.getElem?_eq_getElem h0]) 4 _ rfl
    have hne := cell_ne hb hk h4
    exact ⟨b, off, rfl, hlt, fun i a ha j v hv => (hkeep _ hne).trans (hc i a ha j v hv)⟩
  · obtain ⟨b, off, e, hlt, hc⟩ := h.2 a ha h0
    have h4 := hc 0 h0
    have hne := cell_ne hb hk h4
    exact ⟨b, off, e, hlt, fun i hi => (hkeep _ hne).trans (hc i hi)⟩
theorem setRow_cell (g : Nat) : ∀ (vs : List Value) (W : World) (i : Nat) (p : Addr), p.block ≠ g → (setRow g W i vs).cell? p = W.cell? p
  | [], _, _, _, _ => rfl
  | v :: vs, W, i, p, hp => (setRow_cell g vs _ (i + 1) p hp).trans (World.cell?_setCell_other W _ p v (fun e => hp (by first | rw [e] | rw [← e])))
theorem Wts.setRowNe {W : World} {n g : Nat} {t : TypeId} {cs : List Value} {A : Option Addr} {l : List TW} (h : Wts W n A l) (hb : Blk W g t cs.toArray) (hk : NoU8 cs) (vs : List Value) : Wts (setRow g W 0 vs) n A l := h.keepNe hb hk (fun p hp => setRow_cell g vs W 0 p hp)
/-- a state is stored into its variable -/
theorem SBox.store {W : World} {g c c' : Nat} {s s' : Jb.Jt} {A A' : Option Addr} {l l' : List TW} (h : SBox W g s A c l) (hq : l'.map TW.w = s'.q) (hcap : l'.length ≤ c') (hcm : c' ≤ maxLen) (hw : Wts W W.heap.size A' l') : SBox (setRow g W 0 (JL s' A' l'.length c')) g s' A' c' l' :=
  ⟨h.blk.setRow _ (by simp [JL]), hq, hcap, hcm, by rw [setRow_size]; exact hw.setRowNe h.blk (JL_no _ _ _ _) _⟩
/-- another variable was written -/
theorem SBox.other {W : World} {g g' c n' c' : Nat} {s s' : Jb.Jt} {A A' : Option Addr} {l : List TW} (h : SBox W g s A c l) (hne : g ≠ g') (hb : Blk W g' 26 (JL s' A' n' c').toArray) (vs : List Value) : SBox (setRow g' W 0 vs) g s A c l :=
  ⟨h.blk.farRow hne vs W 0, h.q, h.cap, h.cm, by rw [setRow_size]; exact h.wts.setRowNe hb (JL_no _ _ _ _) vs⟩
theorem SBox.new {W : World} {s : Jb.Jt} {A : Option Addr} {c : Nat} {l : List TW} (hq : l.map TW.w = s.q) (hcap : l.length ≤ c) (hcm : c ≤ maxLen) (hw : Wts W W.heap.size A l) : SBox (W.alloc (.cells (JL s A l.length c).toArray 26)) W.heap.size s A c l :=
  ⟨Blk.new W _ _, hq, hcap, hcm, hw.push _⟩
end Go.Proofs.Ytnaafjdnmbajjaa
/- Layer 30: the examples that every law looks at. -/
namespace Go.Proofs.Ytnaafjdnmbajjaa
open Go.RowKit
set_option linter.unusedVariables false
set_option linter.unusedSimpArgs false
attribute [local go_sem ↓] run_min_plain run_max_plain
attribute [local go_sem] setCell_drewN alloc_drewN
def lv0 : Jb.Jt := ⟨40, 200, 0, false, 0, 0, -1, -1, 0, 0, [], 0, 0, 0⟩
def lvA : Jb.Md := ⟨5, 800, false, 0, []⟩
def lvB : Jb.Md := ⟨7, 1120, false, 0, []⟩
def lvC : Jb.Md := ⟨6, 960, false, 0, []⟩
theorem lv_new : Jb.new 40 200 = (lv0, 0) := by rfl
def lv1 : Jb.Jt := (Jb.put lv0 1000 lvA).1
def lv2 : Jb.Jt := (Jb.put lv1 1030 lvB).1
def lv3 : Jb.Jt := (Jb.run lv2 1080).1
theorem lv_1 : Jb.put lv0 1000 lvA = (⟨40, 200, 1000, true, 1040, 800, 5, -1, 0, 900, [⟨1040, lvA⟩], 0, 0, 0⟩, [], 1, 0) := by rfl
theorem lv_2 : Jb.put ⟨40, 200, 1000, true, 1040, 800, 5, -1, 0, 900, [⟨1040, lvA⟩], 0, 0, 0⟩ 1030 lvB = (⟨40, 200, 1030, true, 1040, 800, 7, -1, 10, 890, [⟨1040, lvA⟩, ⟨1080, lvB⟩], 0, 0, 0⟩, [], 1, 0) := by rfl
theorem lv_3 : Jb.run ⟨40, 200, 1030, true, 1040, 800, 7, -1, 10, 890, [⟨1040, lvA⟩, ⟨1080, lvB⟩], 0, 0, 0⟩ 1080 = (⟨40, 200, 1080, true, 1040, 800, 7, 7, 10, 890, [], 0, 0, 2⟩, [⟨1040, lvA⟩, ⟨1080, lvB⟩], 0) := by rfl
theorem lv_4 : Jb.put ⟨40, 200, 1080, true, 1040, 800, 7, 7, 10, 890, [], 0, 0, 2⟩ 1081 lvC = (⟨40, 200, 1081, true, 1040, 800, 7, 7, 10, 890, [], 1, 0, 2⟩, [], 2, 0) := by rfl
/-- Put's results, the state known -/
def PutE (s : Jb.Jt) (lp : List Jb.Wt) (v er : Int) (w : World) (e : Ending) (w' : World) : Prop :=
  ∃ (A1 : Option Addr) (c1 : Nat) (l1 : List TW) (A2 : Option Addr) (c2 : Nat) (l2 : List TW), e = .returned (.tuple #[.agg (JL s A2 l2.length c2).toArray, .slice A1 l1.length c1, .int .u8 v, .int .u8 er]) ∧ l1.map TW.w = lp ∧ l2.map TW.w = s.q ∧ Wts w' w'.heap.size A1 l1 ∧ Wts w' w'.heap.size A2 l2 ∧ l2.length ≤ c2 ∧ c2 ≤ maxLen ∧ Below w.heap.size w w'
theorem put_e {s s' : Jb.Jt} {now : Int} {m : Jb.Md} {lp : List Jb.Wt} {v er : Int} {w w' : World} {e : Ending} (h : Jb.put s now m = (s', lp, v, er)) (hp : JPutR s now m w e w') : PutE s' lp v er w e w' := by
  obtain ⟨A1, c1, l1, A2, c2, l2, he, h1, h2, h3, h4, h5, h6, h7⟩ := hp
  rw [h] at he h1 h2
  exact ⟨A1, c1, l1, A2, c2, l2, he, h1, h2, h3, h4, h5, h6, h7.1⟩
def RunE (s : Jb.Jt) (lp : List Jb.Wt) (er : Int) (w : World) (e : Ending) (w' : World) : Prop :=
  ∃ (A1 : Option Addr) (c1 : Nat) (l1 : List TW) (A2 : Option Addr) (c2 : Nat) (l2 : List TW), e = .returned (.tuple #[.agg (JL s A2 l2.length c2).toArray, .slice A1 l1.length c1, .int .u8 er]) ∧ l1.map TW.w = lp ∧ l2.map TW.w = s.q ∧ Wts w' w'.heap.size A1 l1 ∧ Wts w' w'.heap.size A2 l2 ∧ l2.length ≤ c2 ∧ c2 ≤ maxLen ∧ Below w.heap.size w w'
theorem run_e {s s' : Jb.Jt} {now : Int} {lp : List Jb.Wt} {er : Int} {w w' : World} {e : Ending} (h : Jb.run s now = (s', lp, er)) (hp : JRunR s now w e w') : RunE s' lp er w e w' := by
  obtain ⟨A1, c1, l1, A2, c2, l2, he, h1, h2, h3, h4, h5, h6, h7⟩ := hp
  rw [h] at he h1 h2
  exact ⟨A1, c1, l1, A2, c2, l2, he, h1, h2, h3, h4, h5, h6, h7.1⟩
theorem keys_small {s : Jb.Jt} {l : List TW} (h : l.map TW.w = s.q) (hs : ∀ x ∈ s.q, I64 x.m.sq) : ∀ a ∈ l, I64 a.w.m.sq := fun a ha => hs a.w (by rw [← h]; exact List.mem_map.2 ⟨a, ha, rfl⟩)
theorem wts_size {g : Nat} {W : World} {n : Nat} {A : Option Addr} {l : List TW} (vs : List Value) (h : Wts (setRow g W 0 vs) n A l) (hn : n = W.heap.size := by rfl) : Wts (setRow g W 0 vs) (setRow g W 0 vs).heap.size A l := by rw [setRow_size, ← hn]; exact h
end Go.Proofs.Ytnaafjdnmbajjaa
