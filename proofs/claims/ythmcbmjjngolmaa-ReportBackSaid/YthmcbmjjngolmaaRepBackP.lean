/- Layer 26: decoding what has been encoded, encoding what has been decoded; no program in sight. -/
import Derived.Test.YthmcbmjjngolmaaRepDecL
import Derived.Test.YthmcbmjjngolmaaRepMem
namespace Go.Proofs.Ythmcbmjjngolmaa
open Go.RowKit
set_option linter.unusedVariables false
theorem fld_app (a b c : List Int) (i k : Nat) (h : a.length = i) (hb : b.length = k) : fld (a ++ (b ++ c)) i k = val b := by
  subst h hb
  unfold fld
  rw [List.drop_left, List.take_left]
theorem fld_be (a c : List Int) (i k : Nat) (x : Int) (h : a.length = i) : fld (a ++ (be k x ++ c)) i k = x % 256 ^ k := by
  rw [fld_app a (be k x) c i k h (be_len k x), val_be]
theorem be_val : ∀ (n : Nat) (l : List Int), l.length = n → Within 0 255 l → be n (val l) = l
  | 0, l, h, _ => by
    obtain rfl := List.eq_nil_of_length_eq_zero h
    rfl
  | n + 1, l, h, hb => by
    obtain ⟨a, b, rfl⟩ : ∃ a b, l = a ++ [b] := ⟨l.dropLast, l.getLast (by intro e; rw [e] at h; simp at h), (List.dropLast_concat_getLast _).symm⟩
    have ha : a.length = n := by simpa using h
    have h1 := be_val n a ha (fun z hz => hb z (List.mem_append_left _ hz))
    have h2 := hb b (List.mem_append_right _ (List.mem_singleton.2 rfl))
    rw [val_snoc]
    unfold be
    have e1 : (256 * val a + b) / 256 = val a := by omega
    have e2 : (256 * val a + b) % 256 = b := by omega
    rw [e1, e2, h1]
theorem be_fld (bs : List Int) (hz : Within 0 255 bs) (i k : Nat) (h : i + k ≤ bs.length) : be k (fld bs i k) = (bs.drop i).take k := by
  unfold fld
  exact be_val k _ (by simp; omega) ((hz.drop i).take k)
theorem cut_join (bs : List Int) (i j k : Nat) : (bs.drop i).take j ++ (bs.drop (i + j)).take k = (bs.drop i).take (j + k) := by
  rw [List.take_add, List.drop_drop]
namespace Rep
theorem block_of (P Q : List Int) (b : Bk) (p : Nat) (hp : P.length = p) (hok : b.ok) (hf : b.fit) : blockAt (P ++ (b.bytes ++ Q)) p = b := by
  obtain ⟨⟨a0, a1⟩, ⟨b0, b1⟩, ⟨c0, c1⟩, ⟨d0, d1⟩, ⟨e0, e1⟩, ⟨f0, f1⟩, g0, g1⟩ := hok
  obtain ⟨l0, l1⟩ := hf
  have q0 : fld (P ++ (b.bytes ++ Q)) p 4 = b.source := by
    have := fld_be P (be 1 b.frac ++ (be 3 b.lost ++ (be 4 b.high ++ (be 4 b.jit ++ (be 4 b.last ++ (be 4 b.delay ++ Q)))))) p 4 b.source hp
    simp only [Bk.bytes, List.append_assoc] at this ⊢
    rw [this]; omega
  have q1 : fld (P ++ (b.bytes ++ Q)) (p + 4) 1 = b.frac := by
    have := fld_be (P ++ be 4 b.source) (be 3 b.lost ++ (be 4 b.high ++ (be 4 b.jit ++ (be 4 b.last ++ (be 4 b.delay ++ Q))))) (p + 4) 1 b.frac (by simp [be_len, hp])
    simp only [Bk.bytes, List.append_assoc] at this ⊢
    rw [this]; omega
  have q2 : fld (P ++ (b.bytes ++ Q)) (p + 5) 3 = b.lost % 16777216 := by
    have := fld_be (P ++ be 4 b.source ++ be 1 b.frac) (be 4 b.high ++ (be 4 b.jit ++ (be 4 b.last ++ (be 4 b.delay ++ Q)))) (p + 5) 3 b.lost (by simp [be_len, hp])
    simp only [Bk.bytes, List.append_assoc] at this ⊢
    rw [this]; omega
  have q3 : fld (P ++ (b.bytes ++ Q)) (p + 8) 4 = b.high := by
    have := fld_be (P ++ be 4 b.source ++ be 1 b.frac ++ be 3 b.lost) (be 4 b.jit ++ (be 4 b.last ++ (be 4 b.delay ++ Q))) (p + 8) 4 b.high (by simp [be_len, hp])
    simp only [Bk.bytes, List.append_assoc] at this ⊢
    rw [this]; omega
  have q4 : fld (P ++ (b.bytes ++ Q)) (p + 12) 4 = b.jit := by
    have := fld_be (P ++ be 4 b.source ++ be 1 b.frac ++ be 3 b.lost ++ be 4 b.high) (be 4 b.last ++ (be 4 b.delay ++ Q)) (p + 12) 4 b.jit (by simp [be_len, hp])
    simp only [Bk.bytes, List.append_assoc] at this ⊢
    rw [this]; omega
  have q5 : fld (P ++ (b.bytes ++ Q)) (p + 16) 4 = b.last := by
    have := fld_be (P ++ be 4 b.source ++ be 1 b.frac ++ be 3 b.lost ++ be 4 b.high ++ be 4 b.jit) (be 4 b.delay ++ Q) (p + 16) 4 b.last (by simp [be_len, hp])
    simp only [Bk.bytes, List.append_assoc] at this ⊢
    rw [this]; omega
  have q6 : fld (P ++ (b.bytes ++ Q)) (p + 20) 4 = b.delay := by
    have := fld_be (P ++ be 4 b.source ++ be 1 b.frac ++ be 3 b.lost ++ be 4 b.high ++ be 4 b.jit ++ be 4 b.last) Q (p + 20) 4 b.delay (by simp [be_len, hp])
    simp only [Bk.bytes, List.append_assoc] at this ⊢
    rw [this]; omega
  unfold blockAt
  rw [q0, q1, q2, q3, q4, q5, q6]
  have q7 : (if 8388608 ≤ b.lost % 16777216 then b.lost % 16777216 - 16777216 else b.lost % 16777216) = b.lost := by split <;> omega
  rw [q7]
theorem blocks_of (P Q : List Int) (l : List Bk) (p : Nat) (hp : P.length = p) (hok : ∀ b ∈ l, b.ok) (hf : ∀ b ∈ l, b.fit) : (List.range l.length).map (fun i => blockAt (P ++ (l.flatMap Bk.bytes ++ Q)) (p + 24 * i)) = l := by
  refine List.ext_getElem (by simp) fun i h1 h2 => ?_
  rw [List.getElem_map, List.getElem_range]
  have hs : l = l.take i ++ (l[i] :: l.drop (i + 1)) := by
    rw [← List.drop_eq_getElem_cons h2, List.take_append_drop]
  have hfl : l.flatMap Bk.bytes = (l.take i).flatMap Bk.bytes ++ (l[i].bytes ++ (l.drop (i + 1)).flatMap Bk.bytes) := by
    conv => lhs; rw [hs]
    rw [List.flatMap_append, List.flatMap_cons]
  rw [hfl]
  have := block_of (P ++ (l.take i).flatMap Bk.bytes) ((l.drop (i + 1)).flatMap Bk.bytes ++ Q) l[i] (p + 24 * i) (by rw [List.length_append, flat_len, hp, List.length_take]; omega) (hok _ (List.getElem_mem h2)) (hf _ (List.getElem_mem h2))
  simp only [List.append_assoc] at this ⊢
  exact this
theorem be_two (y : Int) (h0 : 0 ≤ y) (h1 : y ≤ 255) : be 2 y = [0, y] := by
  have e : be 2 y = [y / 256 % 256, y % 256] := rfl
  rw [e]
  have e1 : y / 256 % 256 = 0 := by omega
  have e2 : y % 256 = y := by omega
  rw [e1, e2]
theorem sizeR_val (s : Bool) (n : Nat) : sizeR s n = 4 * ((if s then 7 else 2) + 6 * (n : Int)) := by
  unfold sizeR
  cases s <;> simp <;> omega
/-- a report at the front is read as it was -/
theorem dec_enc (r : Rpt) (Q : List Int) (hok : r.ok) (h0 : (enc r).2 = 0) : dec ((enc r).1 ++ Q) = (r, ((enc r).1.length : Int), 0) := by
  have hl : ¬31 < r.blocks.length := by
    intro h; unfold enc at h0; rw [if_pos h] at h0; simp at h0
  have hf : ∀ b ∈ r.blocks, b.fit := by
    refine Classical.byContradiction fun h => ?_
    unfold enc at h0; rw [if_neg hl, if_pos h] at h0; simp at h0
  have hp : ¬(r.sender = false ∧ ¬r.plain) := by
    intro h; unfold enc at h0; rw [if_neg hl, if_neg (fun hn => hn hf), if_pos h] at h0; simp at h0
  have he : (enc r).1 = r.bytes := by
    unfold enc; rw [if_neg hl, if_neg (fun hn => hn hf), if_neg hp]
  rw [he]
  have hlen := bytes_len r
  obtain ⟨⟨s0, s1⟩, ⟨c0, c1⟩, ⟨t0, t1⟩, ⟨p0, p1⟩, ⟨o0, o1⟩, hbk⟩ := hok
  obtain ⟨s, so, cl, ti, pa, oc, l⟩ := r
  simp only at *
  have hsz := sizeR_val s l.length
  obtain ⟨y, hy⟩ : ∃ y, y = sizeR s l.length / 4 - 1 := ⟨_, rfl⟩
  have hy2 : y = (if s then 7 else 2) + 6 * (l.length : Int) - 1 := by rw [hy, hsz, Int.mul_ediv_cancel_left _ (by decide)]
  have hy0 : 0 ≤ y ∧ y ≤ 255 := by rw [hy2]; split <;> omega
  have hb2 := be_two y hy0.1 hy0.2
  have hshape : ∃ K : List Int, (⟨s, so, cl, ti, pa, oc, l⟩ : Rpt).bytes ++ Q = (128 + (l.length : Int)) :: (if s then 200 else 201) :: 0 :: y :: (be 4 so ++ K) ∧ (Rpt.of ((⟨s, so, cl, ti, pa, oc, l⟩ : Rpt).bytes ++ Q) s l.length = ⟨s, so, cl, ti, pa, oc, l⟩) := by
    refine ⟨(if s then be 8 cl ++ (be 4 ti ++ (be 4 pa ++ be 4 oc)) else []) ++ (l.flatMap Bk.bytes ++ Q), ?_, ?_⟩
    · simp only [Rpt.bytes, Rpt.front, ← hy, hb2, List.append_assoc, List.cons_append, List.nil_append]
    · have hbl := blocks_of (⟨s, so, cl, ti, pa, oc, l⟩ : Rpt).front Q l (frontLen s) (by
        unfold Rpt.front frontLen
        cases s <;> simp [be_len]) hbk hf
      have hbl2 : (List.range l.length).map (fun i => blockAt ((⟨s, so, cl, ti, pa, oc, l⟩ : Rpt).bytes ++ Q) (frontLen s + 24 * i)) = l := by
        rw [show (⟨s, so, cl, ti, pa, oc, l⟩ : Rpt).bytes ++ Q = (⟨s, so, cl, ti, pa, oc, l⟩ : Rpt).front ++ (l.flatMap Bk.bytes ++ Q) by simp only [Rpt.bytes, List.append_assoc]]
        exact hbl
      have e4 : ∀ K, fld ([128 + (l.length : Int), (if s then 200 else 201)] ++ [0, y] ++ (be 4 so ++ K)) 4 4 = so := fun K => by
        rw [fld_be _ K 4 4 so rfl]; omega
      cases s
      · have hpl : cl = 0 ∧ ti = 0 ∧ pa = 0 ∧ oc = 0 := by
          refine Classical.byContradiction fun h => hp ⟨rfl, h⟩
        obtain ⟨rfl, rfl, rfl, rfl⟩ := hpl
        unfold Rpt.of
        rw [hbl2]
        have := e4 (l.flatMap Bk.bytes ++ Q)
        have e : (⟨false, so, 0, 0, 0, 0, l⟩ : Rpt).bytes ++ Q = [128 + (l.length : Int), 201] ++ [0, y] ++ (be 4 so ++ (l.flatMap Bk.bytes ++ Q)) := by
          simp only [Rpt.bytes, Rpt.front, ← hy, hb2, List.append_assoc, List.cons_append, List.nil_append, if_neg (show ¬(false = true) by decide)]
        simp only [Bool.false_eq_true, if_false] at this ⊢
        rw [e, this]
      · unfold Rpt.of
        rw [hbl2]
        have e : (⟨true, so, cl, ti, pa, oc, l⟩ : Rpt).bytes ++ Q = [128 + (l.length : Int), 200] ++ ([0, y] ++ (be 4 so ++ (be 8 cl ++ (be 4 ti ++ (be 4 pa ++ (be 4 oc ++ (l.flatMap Bk.bytes ++ Q))))))) := by
          simp only [Rpt.bytes, Rpt.front, ← hy, hb2, List.append_assoc, List.cons_append, List.nil_append, if_true]
        have f1 := fld_be ([128 + (l.length : Int), 200] ++ [0, y]) (be 8 cl ++ (be 4 ti ++ (be 4 pa ++ (be 4 oc ++ (l.flatMap Bk.bytes ++ Q))))) 4 4 so rfl
        have f2 := fld_be ([128 + (l.length : Int), 200] ++ [0, y] ++ be 4 so) (be 4 ti ++ (be 4 pa ++ (be 4 oc ++ (l.flatMap Bk.bytes ++ Q)))) 8 8 cl (by simp [be_len])
        have f3 := fld_be ([128 + (l.length : Int), 200] ++ [0, y] ++ be 4 so ++ be 8 cl) (be 4 pa ++ (be 4 oc ++ (l.flatMap Bk.bytes ++ Q))) 16 4 ti (by simp [be_len])
        have f4 := fld_be ([128 + (l.length : Int), 200] ++ [0, y] ++ be 4 so ++ be 8 cl ++ be 4 ti) (be 4 oc ++ (l.flatMap Bk.bytes ++ Q)) 20 4 pa (by simp [be_len])
        have f5 := fld_be ([128 + (l.length : Int), 200] ++ [0, y] ++ be 4 so ++ be 8 cl ++ be 4 ti ++ be 4 pa) (l.flatMap Bk.bytes ++ Q) 24 4 oc (by simp [be_len])
        simp only [List.append_assoc] at f1 f2 f3 f4 f5
        simp only [if_true]
        rw [e, f1, f2, f3, f4, f5]
        have h8 : (256 : Int) ^ 8 = 18446744073709551616 := by decide
        have h4 : (256 : Int) ^ 4 = 4294967296 := by decide
        rw [h8, h4]
        congr 1 <;> omega
  obtain ⟨K, hsh, hof⟩ := hshape
  have g0 : ((⟨s, so, cl, ti, pa, oc, l⟩ : Rpt).bytes ++ Q).getD 0 0 = 128 + (l.length : Int) := by rw [hsh]; rfl
  have g1 : ((⟨s, so, cl, ti, pa, oc, l⟩ : Rpt).bytes ++ Q).getD 1 0 = if s then 200 else 201 := by rw [hsh]; rfl
  have g2 : ((⟨s, so, cl, ti, pa, oc, l⟩ : Rpt).bytes ++ Q).getD 2 0 = 0 := by rw [hsh]; rfl
  have g3 : ((⟨s, so, cl, ti, pa, oc, l⟩ : Rpt).bytes ++ Q).getD 3 0 = y := by rw [hsh]; rfl
  have gl : ((⟨s, so, cl, ti, pa, oc, l⟩ : Rpt).bytes ++ Q).length = (if s then 28 else 8) + 24 * l.length + Q.length := by rw [List.length_append, hlen]
  have gk : (((⟨s, so, cl, ti, pa, oc, l⟩ : Rpt).bytes ++ Q).getD 1 0 == 200) = s := by rw [g1]; cases s <;> rfl
  have gm : (((⟨s, so, cl, ti, pa, oc, l⟩ : Rpt).bytes ++ Q).getD 0 0 % 32).toNat = l.length := by rw [g0]; omega
  unfold dec
  rw [gk, gm, hof, g0, g1, g2, g3, gl, hlen]
  rw [if_neg (by split <;> omega), if_neg (by omega), if_neg (by cases s <;> simp), if_neg (by omega), if_neg (by rw [hsz]; cases s <;> simp <;> omega)]
  congr 1
  congr 1
  rw [hsz]
  cases s <;> simp <;> omega
theorem decAll_encAll : ∀ (l : List Rpt) (f : Nat) (pre : List Int) (out : List Rpt), (∀ r ∈ l, r.ok) → (encAll l).2 = 0 → (encAll l).1.length < f → decAll f (pre ++ (encAll l).1) pre.length out = (out ++ l, 0, 0)
  | [], f, pre, out, _, _, hf => by
    obtain ⟨g, rfl⟩ : ∃ g, f = g + 1 := ⟨f - 1, by omega⟩
    unfold decAll
    rw [if_pos (by simp [encAll])]
    simp
  | r :: l, f, pre, out, hok, h0, hf => by
    obtain ⟨g, rfl⟩ : ∃ g, f = g + 1 := ⟨f - 1, by omega⟩
    have hr : (enc r).2 = 0 := by
      refine Classical.byContradiction fun h => ?_
      rw [encAll_cons_bad r l h] at h0
      exact h h0
    have hl : (encAll l).2 = 0 := by
      refine Classical.byContradiction fun h => ?_
      rw [encAll_cons_ok r l hr, if_neg h] at h0
      exact h h0
    rw [encAll_cons_ok r l hr, if_pos hl] at hf ⊢
    simp only at hf ⊢
    have hd : (pre ++ ((enc r).1 ++ (encAll l).1)).drop pre.length = (enc r).1 ++ (encAll l).1 := List.drop_left
    have h8 : 8 ≤ (enc r).1.length := by
      have hdec := dec_enc r [] (hok r (List.mem_cons_self)) hr
      unfold enc at hr ⊢
      by_cases c1 : 31 < r.blocks.length
      · rw [if_pos c1] at hr; simp at hr
      rw [if_neg c1] at hr ⊢
      by_cases c2 : ¬∀ b ∈ r.blocks, b.fit
      · rw [if_pos c2] at hr; simp at hr
      rw [if_neg c2] at hr ⊢
      by_cases c3 : r.sender = false ∧ ¬r.plain
      · rw [if_pos c3] at hr; simp at hr
      rw [if_neg c3]
      rw [bytes_len]
      split <;> omega
    unfold decAll
    rw [if_neg (by simp; omega), hd, dec_enc r (encAll l).1 (hok r (List.mem_cons_self)) hr]
    simp only [if_true]
    have ih := decAll_encAll l g (pre ++ (enc r).1) (out ++ [r]) (fun x hx => hok x (List.mem_cons_of_mem _ hx)) hl (by simp at hf; omega)
    simp only [List.append_assoc, List.length_append] at ih
    have e : pre.length + ((enc r).1.length : Int).toNat = pre.length + (enc r).1.length := by omega
    rw [e, ih]
    simp
end Rep
end Go.Proofs.Ythmcbmjjngolmaa
