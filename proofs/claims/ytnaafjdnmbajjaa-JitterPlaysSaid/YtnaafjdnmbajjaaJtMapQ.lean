/- A look-up of a bool in a map that the call has made, at the operation; over any program. -/
import Derived.Maps.OwnOps
import Derived.Maps.Views
import Derived.Test.YtnaafjdnmbajjaaJtSmall
import Derived.Test.YtnaafjdnmbajjaaOpenRowsQ
namespace Go.Proofs.Ytnaafjdnmbajjaa
open Go Go.RowKit
open Go.Maps (Keyed)
set_option linter.unusedVariables false
theorem plainElem_bool_inv {H : Type} {P : Program} {e : TypeId} (he : P.underlying e = some .bool) {v : Value} {z : DataW H × List MemPlace} (h : plainElem P e v = some z) : ∃ x, v = .bool x ∧ z = (.lit (.bool x), []) := by
  unfold plainElem at h
  rw [he] at h
  cases v <;> simp at h
  case bool x => exact ⟨x, rfl, h.symm⟩
/-- 'm[k]' (without 'ok') at elements of type bool -/
theorem wpList_lookup_own_bool {H : Type} {P : Program} (w : World) {ops : Array Oper} {rest : List Oper} {o : Oper} {a : Act} {Q : Exit → Act → World → Prop}
    (hg : o.guard = none) (m x : Operand) (t : TypeId) (hop : o.op = Op.lookup t m x false)
    (k e : TypeId) (K : Keyed P k) (ht : P.underlying t = some (.map k e)) (he : P.underlying e = some .bool) (hz : (zeroValue e).run P w = .ok (.bool false) w) (b n : Nat) (D : DataW H)
    (hm : a.eval m = .map (some b)) (hown : w.ownsMap P k (plainElem P e) b n D) (key : Value) (kl : Lit) (hx : a.eval x = key) (hkey : keyOf P k key = some kl)
    (hK : ∀ c : Bool, D.atKey kl (.lit (.bool false)) = .lit (.bool c) → wpList P ops Q rest (a.put o.dst (.bool c)) w) :
    wpList P ops Q (o :: rest) a w := by
  refine wpList_plain hg fun K' hK' => ?_
  obtain ⟨v, ps, hrun, hv⟩ := hown.lookup K ht hz (plainElem_bool he false) hkey
  obtain ⟨c, rfl, hc⟩ := plainElem_bool_inv he hv
  injection hc with hc _
  unfold Oper.wp
  simp [execOp, hop, hm, hx, hrun, Result.andThen]
  exact hK' _ _ (hK c hc)
/-- the numbers that have been seen -/
def sqMap (H : Type) (l : List Int) : DataW H := l.foldl (fun D s => D.put (.int .i64 s) (.lit (.bool true))) (.map [])
theorem sqMap_snoc (H : Type) (l : List Int) (s : Int) : sqMap H (l ++ [s]) = (sqMap H l).put (.int .i64 s) (.lit (.bool true)) := by simp [sqMap, List.foldl_append]
theorem sqMap_is (H : Type) : ∀ (n : Nat) (l : List Int), l.length = n → Maps.IsMap (sqMap H l)
  | 0, l, h => by
    obtain rfl := List.eq_nil_of_length_eq_zero h
    exact Maps.isMap_empty
  | n + 1, l0, h => by
    obtain ⟨l, s, rfl⟩ : ∃ a b, l0 = a ++ [b] := ⟨l0.dropLast, l0.getLast (by intro e; rw [e] at h; simp at h), (List.dropLast_concat_getLast _).symm⟩
    rw [sqMap_snoc]
    exact (sqMap_is H n l (by simpa using h)).put _ _
theorem sqMap_at (H : Type) (s : Int) : ∀ (n : Nat) (l : List Int), l.length = n → (sqMap H l).atKey (.int .i64 s) (.lit (.bool false)) = .lit (.bool (l.any fun x => x == s))
  | 0, l, h => by
    obtain rfl := List.eq_nil_of_length_eq_zero h
    rfl
  | n + 1, l0, h => by
    obtain ⟨l, x, rfl⟩ : ∃ a b, l0 = a ++ [b] := ⟨l0.dropLast, l0.getLast (by intro e; rw [e] at h; simp at h), (List.dropLast_concat_getLast _).symm⟩
    have hl : l.length = n := by simpa using h
    rw [sqMap_snoc]
    by_cases hx : x = s
    · subst hx
      rw [Maps.atKey_put_same (k := .int .i64 x) (sqMap_is H n l hl) (by unfold WideAt.IsKeyLit; trivial)]
      simp
    · rw [Maps.atKey_put_other (fun e => hx (by injection e with _ e; exact e.symm)), sqMap_at H s n l hl]
      simp [hx]
end Go.Proofs.Ytnaafjdnmbajjaa
/- Layer 30: what a valid state is, and that Run and Put keep it; no program in sight. -/
namespace Go.Proofs.Ytnaafjdnmbajjaa.Jb
open Go.RowKit
set_option linter.unusedVariables false
def Fine (now high : Int) (w : Wt) : Prop := w.m.ok ∧ now < w.at_ ∧ w.at_ ≤ 562949953421312 ∧ w.m.sq ≤ high
theorem getD_eq {q : List Wt} {k : Nat} (h : k < q.length) : q.getD k Wt.zero = q[k] := by simp [List.getD_eq_getElem?_getD, h]
theorem okQ_iff (now high : Int) (q : List Wt) : okQ now high q ↔ q.length ≤ 200 ∧ (∀ w ∈ q, Fine now high w) ∧ q.Pairwise bef ∧ q.Pairwise (fun a b => a.m.sq ≠ b.m.sq) := by
  constructor
  · intro h
    refine ⟨h.1, fun w hw => ?_, ?_, ?_⟩
    · obtain ⟨k, hk, rfl⟩ := List.getElem_of_mem hw
      obtain ⟨a, b, c, d, _⟩ := h.2 k hk
      rw [getD_eq hk] at a b c d
      exact ⟨a, b, c, d⟩
    · refine List.pairwise_iff_getElem.2 fun i j hi hj hij => ?_
      have := h.asc i j hij hj
      rwa [getD_eq hi, getD_eq hj] at this
    · refine List.pairwise_iff_getElem.2 fun i j hi hj hij => ?_
      have := (h.2 j hj).2.2.2.2.2 i hij
      rwa [getD_eq hi, getD_eq hj] at this
  · rintro ⟨h1, h2, h3, h4⟩
    refine ⟨h1, fun k hk => ?_⟩
    obtain ⟨a, b, c, d⟩ := h2 _ (List.getElem_mem hk)
    unfold okAt
    rw [getD_eq hk]
    refine ⟨a, b, c, d, fun h0 => ?_, fun i hi => ?_⟩
    · rw [getD_eq (show k - 1 < q.length by omega)]
      exact List.pairwise_iff_getElem.1 h3 (k - 1) k (by omega) hk (by omega)
    · rw [getD_eq (show i < q.length by omega)]
      exact List.pairwise_iff_getElem.1 h4 i k (by omega) hk hi
theorem left_gt (now : Int) : ∀ q : List Wt, q.Pairwise bef → ∀ w ∈ left now q, now < w.at_
  | [], _, w, hw => by cases hw
  | a :: q, h, w, hw => by
    unfold left at hw
    rw [List.dropWhile_cons] at hw
    by_cases ha : a.at_ ≤ now
    · rw [if_pos (by simpa using ha)] at hw
      exact left_gt now q (List.pairwise_cons.1 h).2 w hw
    · rw [if_neg (by simpa using ha)] at hw
      rcases List.mem_cons.1 hw with rfl | hw
      · omega
      · have := bef_at ((List.pairwise_cons.1 h).1 w hw)
        omega
theorem left_sub (now : Int) (q : List Wt) : List.Sublist (left now q) q := List.dropWhile_sublist _
theorem due_sub (now : Int) (q : List Wt) : List.Sublist (due now q) q := List.takeWhile_sublist _
theorem maxSq_bd (hi : Int) : ∀ (l : List Wt) (d : Int), (∀ w ∈ l, w.m.sq ≤ hi) → d ≤ hi → d ≤ maxSq d l ∧ maxSq d l ≤ hi
  | [], d, _, h => ⟨Int.le_refl _, h⟩
  | a :: l, d, h, hd => by
    have h1 := h a List.mem_cons_self
    obtain ⟨e1, e2⟩ := maxSq_bd hi l (max d a.m.sq) (fun w hw => h w (List.mem_cons_of_mem _ hw)) (by omega)
    show d ≤ maxSq (max d a.m.sq) l ∧ maxSq (max d a.m.sq) l ≤ hi
    omega
theorem run0_ok (s : Jt) (now : Int) (h : s.ok) (h1 : s.now ≤ now) (h2 : now ≤ 281474976710656) (h3 : s.played + (due now s.q).length ≤ 281474976710656) : (run0 s now).ok := by
  obtain ⟨⟨a1, a2, a3, a4, a5, a6, a7⟩, hc, ⟨b1, b2, b3⟩, hr, hq⟩ := h
  obtain ⟨q1, q2, q3, q4⟩ := (okQ_iff _ _ _).1 hq
  have hm := maxSq_bd (max s.done s.high) (due now s.q) s.done (fun w hw => by have := (q2 w ((due_sub now s.q).subset hw)).2.2.2; omega) (by omega)
  have hl : (left now s.q).length ≤ s.q.length := (left_sub now s.q).length_le
  refine ⟨⟨⟨by show 0 ≤ now; omega, h2⟩, a2, a3, a4, a5, ⟨by show -1 ≤ maxSq _ _; omega, by show maxSq _ _ ≤ _; omega⟩, a7⟩, hc, ⟨b1, b2, ⟨by show 0 ≤ s.played + _; omega, h3⟩⟩, ?_, ?_⟩
  · rcases hr with hr | ⟨r1, r2, r3⟩
    · exact Or.inl hr
    · right
      have e : s.q = [] := List.eq_nil_of_length_eq_zero r1
      show (left now s.q).length = 0 ∧ s.high = -1 ∧ maxSq s.done (due now s.q) = -1
      rw [e]
      exact ⟨rfl, r2, r3⟩
  · refine (okQ_iff _ _ _).2 ⟨by show (left now s.q).length ≤ 200; omega, fun w hw => ?_, q3.sublist (left_sub now s.q), q4.sublist (left_sub now s.q)⟩
    obtain ⟨f1, f2, f3, f4⟩ := q2 w ((left_sub now s.q).subset hw)
    exact ⟨f1, left_gt now s.q q3 w hw, f3, f4⟩
theorem ins_perm (q : List Wt) (w : Wt) : List.Perm (ins q w) (w :: q) := by
  unfold ins
  have h := List.perm_middle (a := w) (l₁ := q.takeWhile fun x => decide (bef x w)) (l₂ := q.dropWhile fun x => decide (bef x w))
  rwa [List.takeWhile_append_dropWhile] at h
theorem bef_tot (a b : Wt) (h : a.m.sq ≠ b.m.sq) : bef a b ∨ bef b a := by unfold bef; omega
theorem ins_asc (w : Wt) : ∀ q : List Wt, q.Pairwise bef → (∀ x ∈ q, x.m.sq ≠ w.m.sq) → (ins q w).Pairwise bef
  | [], _, _ => by simp [ins]
  | a :: q, h, hd => by
    obtain ⟨h1, h2⟩ := List.pairwise_cons.1 h
    by_cases ha : bef a w
    · have e : ins (a :: q) w = a :: ins q w := by simp [ins, ha]
      rw [e]
      refine List.pairwise_cons.2 ⟨fun b hb => ?_, ins_asc w q h2 (fun x hx => hd x (List.mem_cons_of_mem _ hx))⟩
      have hb' := (ins_perm q w).subset hb
      rcases List.mem_cons.1 hb' with rfl | hb'
      · exact ha
      · exact h1 b hb'
    · have e : ins (a :: q) w = w :: a :: q := by simp [ins, ha]
      rw [e]
      have hwa : bef w a := (bef_tot a w (hd a List.mem_cons_self)).resolve_left ha
      refine List.pairwise_cons.2 ⟨fun b hb => ?_, h⟩
      rcases List.mem_cons.1 hb with rfl | hb
      · exact hwa
      · exact bef_trans hwa (h1 b hb)
theorem ins_len (q : List Wt) (w : Wt) : (ins q w).length = q.length + 1 := (ins_perm q w).length_eq
theorem ins_okQ (now high : Int) (q : List Wt) (w : Wt) (h : okQ now high q) (hl : q.length < 200) (hw : Fine now high w) (hd : ∀ x ∈ q, x.m.sq ≠ w.m.sq) : okQ now high (ins q w) := by
  obtain ⟨q1, q2, q3, q4⟩ := (okQ_iff _ _ _).1 h
  refine (okQ_iff _ _ _).2 ⟨by rw [ins_len]; omega, fun x hx => ?_, ins_asc w q q3 hd, ?_⟩
  · rcases List.mem_cons.1 ((ins_perm q w).subset hx) with rfl | hx
    · exact hw
    · exact q2 x hx
  · refine (ins_perm q w).symm.pairwise (List.pairwise_cons.2 ⟨fun x hx => (hd x hx).symm, q4⟩) (fun hab e => hab e.symm)
end Go.Proofs.Ytnaafjdnmbajjaa.Jb
namespace Go.Proofs.Ytnaafjdnmbajjaa.Jb
open Go.RowKit
set_option linter.unusedVariables false
theorem lastAt_bd (z now high : Int) (q : List Wt) (h : okQ now high q) (z0 : 0 ≤ z) (z1 : z ≤ 562949953421313) : z ≤ lastAt z q ∧ lastAt z q ≤ 562949953421313 := by
  unfold lastAt
  by_cases h0 : q.length = 0
  · rw [if_pos h0]; omega
  · rw [if_neg h0]
    have := (h.2 (q.length - 1) (by omega)).2.2.1
    omega
theorem spread_bd (sp d : Int) (h0 : 0 ≤ sp) (h1 : sp ≤ 72057594037927936) (d0 : 0 ≤ d) (d1 : d ≤ 2251799813685248) : 0 ≤ sp + d - (sp + 8) / 16 ∧ sp + d - (sp + 8) / 16 ≤ 72057594037927936 := by omega
theorem meas_ok (s : Jt) (m : Md) (h : s.ok) (hm : m.ok) : (meas s m).ok := by
  obtain ⟨⟨a1, a2, a3, a4, a5, a6, a7⟩, hc, hk, hr, hq⟩ := h
  obtain ⟨m1, m2, m3⟩ := hm
  obtain ⟨c1, c2, c3⟩ := hc
  have hsp : ∀ (on : Bool), 0 ≤ (if on then s.spread + max (s.now - m.ti / 8 - s.trans) (s.trans - (s.now - m.ti / 8)) - (s.spread + 8) / 16 else s.spread) ∧ (if on then s.spread + max (s.now - m.ti / 8 - s.trans) (s.trans - (s.now - m.ti / 8)) - (s.spread + 8) / 16 else s.spread) ≤ 72057594037927936 := fun on => by
    cases on
    · exact a7
    · exact spread_bd s.spread _ a7.1 a7.2 (by omega) (by omega)
  have hs := hsp s.on
  have hz := lastAt_bd (s.now + min (s.least + (if s.on then s.spread + max (s.now - m.ti / 8 - s.trans) (s.trans - (s.now - m.ti / 8)) - (s.spread + 8) / 16 else s.spread) / 4) s.most) s.now s.high s.q hq (by omega) (by omega)
  unfold meas
  refine ⟨⟨a1, ?_, ⟨by show -1125899906842624 ≤ s.now - m.ti / 8; omega, by show s.now - m.ti / 8 ≤ 1125899906842624; omega⟩, ?_, ⟨by show -1 ≤ max s.high m.sq; omega, by show max s.high m.sq ≤ 281474976710656; omega⟩, a6, hs⟩, ⟨c1, c2, c3⟩, hk, Or.inl rfl, ?_⟩
  · show -1125899906842624 ≤ (if _ then _ else s.zero) ∧ (if _ then _ else s.zero) ≤ 1125899906842624
    split
    · exact ⟨Int.le_trans (by omega) hz.1, Int.le_trans hz.2 (by omega)⟩
    · exact a2
  · show -281474976710656 ≤ (if _ then m.ti else s.first) ∧ (if _ then m.ti else s.first) ≤ 281474976710656
    split
    · exact m2
    · exact a4
  · obtain ⟨q1, q2, q3, q4⟩ := (okQ_iff _ _ _).1 hq
    refine (okQ_iff _ _ _).2 ⟨q1, fun w hw => ?_, q3, q4⟩
    obtain ⟨f1, f2, f3, f4⟩ := q2 w hw
    exact ⟨f1, f2, f3, by show w.m.sq ≤ max s.high m.sq; omega⟩
theorem meas_q (s : Jt) (m : Md) : (meas s m).q = s.q ∧ (meas s m).now = s.now ∧ (meas s m).late = s.late ∧ (meas s m).twice = s.twice ∧ (meas s m).played = s.played ∧ (meas s m).high = max s.high m.sq ∧ (meas s m).on = true ∧ (meas s m).done = s.done ∧ (meas s m).least = s.least ∧ (meas s m).most = s.most := ⟨rfl, rfl, rfl, rfl, rfl, rfl, rfl, rfl, rfl, rfl⟩
theorem cnt_ok (s : Jt) (h : s.ok) (l t p : Int) (hl : 0 ≤ l ∧ l ≤ 281474976710656) (ht : 0 ≤ t ∧ t ≤ 281474976710656) (hp : 0 ≤ p ∧ p ≤ 281474976710656) : ({ s with late := l, twice := t, played := p } : Jt).ok :=
  ⟨h.1, h.2.1, ⟨hl, ht, hp⟩, h.2.2.2.1, h.2.2.2.2⟩
theorem put0_ok (s : Jt) (m : Md) (h : s.ok) (hm : m.ok) (hl : s.late < 281474976710656) (ht : s.twice < 281474976710656) : (put0 s m).1.ok := by
  have hk := h.2.2.1
  obtain ⟨k1, k2, k3⟩ := hk
  have hM := meas_ok s m h hm
  unfold put0
  split
  · exact cnt_ok s h _ _ _ k1 ⟨by omega, by omega⟩ k3
  rename_i hany
  split
  · exact cnt_ok s h _ _ _ ⟨by omega, by omega⟩ k2 k3
  split
  · exact h
  rename_i hlen
  dsimp only
  split
  · exact cnt_ok _ hM _ _ _ ⟨by show 0 ≤ s.late + 1; omega, by show s.late + 1 ≤ _; omega⟩ k2 k3
  rename_i ha
  split
  · exact hM
  rename_i hb
  refine ⟨hM.1, hM.2.1, hM.2.2.1, Or.inl rfl, ?_⟩
  have hn : s.now ≤ 281474976710656 := h.1.1.2
  refine ins_okQ s.now (max s.high m.sq) s.q _ hM.2.2.2.2 (by omega) ⟨hm, by show s.now < ptime (meas s m) m.ti; omega, by show ptime (meas s m) m.ti ≤ 562949953421312; omega, by show m.sq ≤ max s.high m.sq; omega⟩ (fun x hx e => hany ?_)
  exact List.any_eq_true.2 ⟨x, hx, by simpa using e⟩
theorem new_ok (l m : Int) (h : cfg l m) : (new l m).1.ok := by
  unfold new
  rw [if_pos h]
  refine ⟨⟨by simp, by simp, by simp, by simp, by simp, by simp, by simp⟩, h, ⟨by simp, by simp, by simp⟩, Or.inr ⟨rfl, rfl, rfl⟩, ?_⟩
  exact ⟨by simp, fun k hk => absurd hk (by simp)⟩
end Go.Proofs.Ytnaafjdnmbajjaa.Jb
