/- Layer 30: copyQueue. -/
import Derived.Test.YtnaafjdnmbajjaaGrowQ
import Derived.Test.YtnaafjdnmbajjaaOpenRowsQ
import Derived.Deep.CutRange
import Derived.Deep.DeepCutAuto
import Derived.RegionCalls
import Derived.Deep.RegionWith
import Derived.Deep.RegionHeld3
namespace Go.Proofs.Ytnaafjdnmbajjaa
open Go.RowKit
set_option linter.unusedVariables false
set_option linter.unusedSimpArgs false
attribute [local go_sem ↓] run_min_plain run_max_plain
attribute [local go_sem] setCell_drewN alloc_drewN
theorem info_w : (Try.prog.info? 50).map (fun i => (i.zero, i.size, i.bytes)) = some (some (.agg #[.int .i64 0, .int .i64 0, .int .i64 0, .bool false, .int .u8 0, .slice none 0 0]), 6, 56) := by kernel_rfl
/-- a queue that the call has made: its row lies from base on, its payloads elsewhere -/
structure QOwn (w : World) (base : Nat) (A : Option Addr) (n c : Nat) (l : List TW) : Prop where
  len : l.length = n
  own : Owns w base 50 6 A n c (l.flatMap TW.row)
  pay : ∀ a ∈ l, IntsAt w w.heap.size .u8 a.B a.w.m.pl
  far : ∀ a ∈ l, 0 < a.w.m.pl.length → ∀ b off, a.B = some ⟨b, off, none⟩ → some b ≠ ownB A
  new : ∀ a ∈ l, 0 < a.w.m.pl.length → ∀ b off, a.B = some ⟨b, off, none⟩ → base ≤ b
theorem QOwn.nil {w : World} {base : Nat} : QOwn w base none 0 0 [] := ⟨rfl, Owns.nil, (fun _ h => by cases h), (fun _ h => by cases h), (fun _ h => by cases h)⟩
theorem QOwn.below {w w' : World} {base n c : Nat} {A : Option Addr} {l : List TW} (h : QOwn w base A n c l) (hb : Below w.heap.size w w') : QOwn w' base A n c l :=
  ⟨h.len, h.own.below hb, fun a ha => (h.pay a ha).later hb, h.far, h.new⟩
theorem QOwn.step {wr v1 v2 wn : World} {base k c cn : Nat} {A An : Option Addr} {l : List TW} {a : TW} (h : QOwn wr base A k c l) (hbs : base ≤ wr.heap.size) (hb : Below wr.heap.size wr v1) (hb2 : Below v1.heap.size v1 v2) (hg : v2.grownBy wn (ownB A))
    (hown : Owns wn base 50 6 An (k + 1) cn (l.flatMap TW.row ++ a.row)) (hat : ownB An = ownB A ∨ ∀ g, ownB An = some g → v2.heap.size ≤ g) (hI : IntsNew wr.heap.size v1 .u8 a.B a.w.m.pl) : QOwn wn base An (k + 1) cn (l ++ [a]) := by
  have s1 := hb.size
  have s2 := hb2.size
  have s3 := hg.size
  have hA : ∀ g, ownB A = some g → g < wr.heap.size := fun g hg' => (h.own.block g hg').2
  have key : ∀ (x : TW), IntsAt v2 v2.heap.size .u8 x.B x.w.m.pl → (0 < x.w.m.pl.length → ∀ b off, x.B = some ⟨b, off, none⟩ → some b ≠ ownB A) → IntsAt wn wn.heap.size .u8 x.B x.w.m.pl := by
    intro x hx hf h0
    obtain ⟨b, off, e, hlt, hc⟩ := hx h0
    exact ⟨b, off, e, by omega, fun i hi => hg.cell (hc i hi) (hf h0 b off e)⟩
  have farN : ∀ b off, 0 < a.w.m.pl.length → a.B = some ⟨b, off, none⟩ → wr.heap.size ≤ b ∧ b < v1.heap.size := by
    intro b off h0 e
    refine ⟨hI.2 h0 b off e, ?_⟩
    obtain ⟨b', off', e', hlt, _⟩ := hI.1 h0
    rw [e] at e'
    injection e' with e'
    injection e' with e1 _
    omega
  have farO : ∀ x ∈ l, ∀ b off, 0 < x.w.m.pl.length → x.B = some ⟨b, off, none⟩ → b < wr.heap.size := by
    intro x hx b off h0 e
    obtain ⟨b', off', e', hlt, _⟩ := h.pay x hx h0
    rw [e] at e'
    injection e' with e'
    injection e' with e1 _
    omega
  refine ⟨by simp [h.len], by rw [List.flatMap_append]; simpa using hown, fun x hx => ?_, fun x hx h0 b off e => ?_, fun x hx h0 b off e => ?_⟩
  · rcases List.mem_append.1 hx with hx | hx
    · exact key x (((h.pay x hx).later hb).later hb2) (h.far x hx)
    · obtain rfl := List.mem_singleton.1 hx
      refine key x (hI.1.later hb2) (fun h0 b off e he => ?_)
      have := farN b off h0 e
      have := hA b he.symm
      omega
  · rcases List.mem_append.1 hx with hx | hx
    · rcases hat with e2 | e2
      · rw [e2]; exact h.far x hx h0 b off e
      · intro he
        have := farO x hx b off h0 e
        have := e2 b he.symm
        omega
    · obtain rfl := List.mem_singleton.1 hx
      have := farN b off h0 e
      rcases hat with e2 | e2
      · rw [e2]
        intro he
        have := hA b he.symm
        omega
      · intro he
        have := e2 b he.symm
        omega
  · rcases List.mem_append.1 hx with hx | hx
    · exact h.new x hx h0 b off e
    · obtain rfl := List.mem_singleton.1 hx
      have := farN b off h0 e
      omega
theorem QOwn.wts {w : World} {base n c : Nat} {A : Option Addr} {l : List TW} (h : QOwn w base A n c l) : Wts w w.heap.size A l := by
  refine ⟨?_, h.pay⟩
  exact Owns.rows h.own h.len (fun a => rfl)
/-- one element, whose cells lie in block g0; where the new slice lies -/
theorem step_append_two {P : Program} {ops : Array Oper} {o : Oper} {a : Act} {w : World} {K : Act → World → Prop} {Q : Exit → Act → World → Prop} {E : Prop} (d : Tmp) (hgd : o.guard = none) (hd : o.dst = some d) (s x : Operand) (t : TypeId)
    (ho : o.op = .call { callee := .builtin .append, args := #[s, x], argTypes := #[t, t] })
    (base : Nat) (e : TypeId) (size bytes : Nat) (z : Value) (ht : P.underlying t = some (.slice e)) (hinfo : (P.info? e).map (fun i => (i.zero, i.size, i.bytes)) = some (some z, size, bytes))
    (hzs : z.cells.size = size) (hsz : 0 < size) (A : Option Addr) (n c : Nat) (xs : List Value) (hs : a.eval s = .slice A n c) (hown : Owns w base e size A n c xs)
    (g0 : Nat) (cs : List Value) (hl : cs.length = size) (h1 : ∀ u ∈ cs, u.oneCell' = true) (hx : a.eval x = .slice (some ⟨g0, 0, none⟩) 1 1) (hb : Blk w g0 e cs.toArray)
    (h63 : n + 1 ≤ maxLen) (hbytes : (n + 1) * bytes ≤ 140737488355328) (hbase : base ≤ w.heap.size)
    (h : ∀ (A' : Option Addr) (c' : Nat) (w' : World), Owns w' base e size A' (n + 1) c' (xs ++ cs) → w.grownBy w' (ownB A) → (ownB A' = ownB A ∨ ∀ g, ownB A' = some g → w.heap.size ≤ g) → K (a.put (some d) (.slice A' (n + 1) c')) w') :
    if Region.wanted o (yielded ops a.tmps) = true then Oper.wp P o a w K Q else E := by
  obtain ⟨i, hi, hz0, hz1, hz2⟩ := info_parts hinfo
  refine step_append_lies w hgd s x t ho base e i z size bytes ht hi hz0 hz1 hz2 hzs hsz _ n xs hs hown ⟨g0, 0, none⟩ 1 1 cs hx (by omega) ?_ h1 (by omega) h63 hbytes hbase _ rfl ?_
  · intro j u hu
    exact World.news_of_block hb j u (by simpa using hu)
  · intro g cap w' hown' hg hat hlt
    rw [ownB_eq] at hg hat
    rw [hd]
    refine h _ _ w' hown' hg ?_
    rcases hat with e | e
    · exact .inl e.symm
    · refine .inr fun g' hg' => ?_
      injection hg' with hg'
      rw [← hg', e]; exact Nat.le_refl _
/-- what copyQueue leaves -/
def QueueR (l : List TW) (w : World) (e : Ending) (w' : World) : Prop :=
  ∃ (A' : Option Addr) (c' : Nat) (l' : List TW), e = .returned (.slice A' l.length c') ∧ l'.map TW.w = l.map TW.w ∧ QOwn w' w.heap.size A' l.length c' l' ∧ Below w.heap.size w w'
set_option maxRecDepth 100000 in
set_option maxHeartbeats 12800000 in
theorem copyQueue_any (A : Option Addr) (l : List TW) (n c : Nat) (w : World) (hn : l.length = n) (hl : n ≤ 100000) (hA : Wts w w.heap.size A l) (hp : ∀ a ∈ l, a.w.m.pl.length ≤ 1000000) : Calls Try.prog 49 #[.slice A n c] w (QueueR l w) := by
  subst hn
  have HA := Lib.hid hA
  have HP := Lib.hid hp
  clear hA hp
  go_enter Try.func49, Try.ntmps49
  go_wp2_with fail
  go_loopg [3, 8] l.length (fun gk s3 i wr => ∃ (k : Nat) (A' : Option Addr) (c' : Nat) (l' : List TW), gk + k = l.length ∧ s3 = .slice A' k c' ∧ i = .int .i64 k ∧ Hid (l'.map TW.w = (l.map TW.w).take k) ∧ Hid (QOwn wr w.heap.size A' k c' l') ∧ Hid (Bel w wr))
  case atStart => exact ⟨0, none, 0, [], rfl, rfl, rfl, Lib.hid rfl, Lib.hid QOwn.nil, Lib.hid (Bel.refl w)⟩
  case round =>
    obtain ⟨k, A', c', l', hgk, rfl, rfl, HL, HO, U⟩ := hrel
    have hi0 : (0 : Int) ≤ (k : Int) := by omega
    by_cases hk : k < l.length
    rotate_left
    · obtain rfl : k = l.length := by omega
      have hi1 : (l.length : Int) ≤ (l.length : Int) := Int.le_refl _
      go_wp2_with fail
      go_ret
      exact ⟨A', c', l', rfl, by rw [HL.out, List.take_of_length_le (by simp)], HO.out, U.out⟩
    have hi1 : (k : Int) < (l.length : Int) := by omega
    obtain ⟨a, ha⟩ : ∃ a, l[k]? = some a := ⟨_, List.getElem?_eq_getElem hk⟩
    obtain ⟨b, off, rfl, hbB, e0, e1, e2, e3, e4, e5⟩ := rowsW (HA.out.1.keep (fun p hp => U.out.cell hp)) ha
    have hpa := HP.out a (List.mem_of_getElem? ha)
    have hia := (HA.out.2 a (List.mem_of_getElem? ha)).keep (w' := wr) (fun p hp => U.out.cell hp)
    have hm : (l.map TW.w)[k]? = some a.w := by rw [List.getElem?_map, ha]; rfl
    have HM := Lib.hid hm
    obtain ⟨⟨at0, ⟨sq0, ti0, mk0, ty0, pl0⟩⟩, B0, c0⟩ := a
    simp only at e0 e1 e2 e3 e4 e5 hpa hia HM
    have BX := Lib.hid ((Blk.new wr 50 #[.int .i64 at0, .int .i64 sq0, .int .i64 ti0, .bool mk0, .int .u8 ty0, .slice B0 pl0.length c0]).drew)
    have UX := Lib.hid (((Bel.refl wr).push (.cells #[.int .i64 at0, .int .i64 sq0, .int .i64 ti0, .bool mk0, .int .u8 ty0, .slice B0 pl0.length c0] 50)).drewN 1)
    have hbs := U.out.size
    have IA := Lib.hid hia
    clear ha hm hia
    go_wp2_with fail
    go_region_law (first
      | (refine step_append_two 20 (by rfl) (by rfl) _ _ 24 (by rfl) w.heap.size 50 6 56 _ Try.underlying24 info_w rfl (by decide) A' k c' _ (by rfl) (Owns.alloc HO2 _) v1.heap.size [.int .i64 at0, .int .i64 sq0, .int .i64 ti0, .bool mk0, .int .u8 ty0, .slice A9 pl0.length c9] rfl (by simp [Value.oneCell']) (by rfl) (Blk.new v1 _ _) (by unfold maxLen; omega) (by omega) (by simp; omega) ?_; intro An cn wn hown hgr hat)
      | (go_simp; go_at_call 34; refine (copyMedia_any sq0 ti0 mk0 ty0 B0 pl0 pl0.length c0 _ w.heap.size (by simp; omega) ((IA.out.alloc hbs _).drew) hpa rfl).mono ?_; rintro e v1 ⟨A9, c9, rfl, hI9, hb9⟩; have HO2 := ((HO.out.own.alloc _).drew).below hb9; have b0 := (BX.out.later hb9).at 0 _ rfl; have hs9 := hb9.size; have hs9' : w.heap.size ≤ v1.heap.size := by simp at hs9; omega))
    all_goals
      go_wp2_with fail
      go_roundg (gk - 1)
      case measure => omega
      case rel =>
        have UV : Below wr.heap.size wr v1 := UX.out.later hb9
        have hI8 := hI9.less (m := wr.heap.size) (by simp)
        have hb2 := (Below.refl v1.heap.size v1).alloc (Nat.le_refl _) (.cells #[.int .i64 at0, .int .i64 sq0, .int .i64 ti0, .bool mk0, .int .u8 ty0, .slice A9 pl0.length c9] 50)
        refine ⟨k + 1, An, cn, l' ++ [⟨⟨at0, ⟨sq0, ti0, mk0, ty0, pl0⟩⟩, A9, c9⟩], by omega, rfl, by go_num, Lib.hid ?_, Lib.hid ?_, Lib.hid ?_⟩
        · rw [List.map_append, HL.out, List.take_add_one, HM.out]; rfl
        · exact HO.out.step hbs UV hb2 hgr (by simpa [TW.row] using hown) hat hI8
        · exact (((U.out.later UV).later hb2).grown hgr (Nat.le_trans hs9' hb2.size) fun g e => (HO.out.own.block g e).1)
end Go.Proofs.Ytnaafjdnmbajjaa
