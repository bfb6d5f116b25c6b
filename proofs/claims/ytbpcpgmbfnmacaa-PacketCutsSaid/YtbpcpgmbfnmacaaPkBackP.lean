/- Layer 25: Decode of what Encode returns, and the reverse, in plain words. -/
import Derived.Test.YtbpcpgmbfnmacaaPkDecS
namespace Go.Proofs.Ytbpcpgmbfnmacaa
open Go.RowKit
set_option linter.unusedVariables false
set_option linter.unusedSimpArgs false
namespace Pk
theorem chk_ver_ok' (bs : List Int) (h : (chk bs).2 = 0) : bs.getD 0 0 / 64 = 2 := by
  unfold chk at h
  by_cases h1 : bs.length = 0
  · rw [if_pos h1] at h; cases h
  rw [if_neg h1] at h
  by_cases h2 : bs.getD 0 0 / 64 ≠ 2
  · rw [if_pos h2] at h; cases h
  omega
/-- a packet whose numbers fit, and which Encode takes -/
structure Good (p : Pkt) : Prop where
  ty0 : 0 ≤ p.ty
  ty1 : p.ty ≤ 127
  sq : 0 ≤ p.sq ∧ p.sq ≤ 65535
  ti : 0 ≤ p.ti ∧ p.ti ≤ 4294967295
  so : 0 ≤ p.so ∧ p.so ≤ 4294967295
  ek : 0 ≤ p.ek ∧ p.ek ≤ 65535
  mx : Within 0 4294967295 p.mx
  et : Within 0 255 p.et
  pl : Within 0 255 p.pl
  pad0 : 0 ≤ p.pad
  pad1 : p.pad ≤ 255
  noex : p.ex = false → p.ek = 0 ∧ p.et = []
  et4 : p.et.length % 4 = 0
  lmx : p.mx.length ≤ 15
  let_ : p.et.length ≤ 1020
  lpl : p.pl.length ≤ 1500
theorem Good.of {p : Pkt} (h : err p = 0) (ty0 : 0 ≤ p.ty) (sq : 0 ≤ p.sq ∧ p.sq ≤ 65535) (ti : 0 ≤ p.ti ∧ p.ti ≤ 4294967295) (so : 0 ≤ p.so ∧ p.so ≤ 4294967295) (ek : 0 ≤ p.ek ∧ p.ek ≤ 65535) (mx : Within 0 4294967295 p.mx) (et : Within 0 255 p.et) (pl : Within 0 255 p.pl) : Good p := by
  unfold err at h
  by_cases h1 : 127 < p.ty ∨ p.pad < 0 ∨ 255 < p.pad
  · rw [if_pos h1] at h; cases h
  rw [if_neg h1] at h
  by_cases h2 : p.ex = false ∧ (p.ek ≠ 0 ∨ 0 < p.et.length) ∨ p.et.length % 4 ≠ 0
  · rw [if_pos h2] at h; cases h
  rw [if_neg h2] at h
  by_cases h3 : 15 < p.mx.length ∨ 1020 < p.et.length ∨ 1500 < p.pl.length
  · rw [if_pos h3] at h; cases h
  refine ⟨ty0, by omega, sq, ti, so, ek, mx, et, pl, by omega, by omega, fun he => ?_, by omega, by omega, by omega, by omega⟩
  have h4 : ¬(p.ek ≠ 0 ∨ 0 < p.et.length) := fun h5 => h2 (Or.inl ⟨he, h5⟩)
  exact ⟨by omega, List.eq_nil_of_length_eq_zero (by omega)⟩
def x0 (p : Pkt) : Int := 128 + (p.mx.length : Int) + (if p.pad = 0 then 0 else 32) + (if p.ex then 16 else 0)
def x1 (p : Pkt) : Int := p.ty + if p.mark then 128 else 0
/-- the first twelve bytes -/
def p12 (p : Pkt) : List Int := [x0 p, x1 p] ++ be 2 p.sq ++ be 4 p.ti ++ be 4 p.so
def extB (p : Pkt) : List Int := if p.ex then be 2 p.ek ++ be 2 ((p.et.length : Int) / 4) ++ p.et else []
def trail (p : Pkt) : List Int := if p.pad = 0 then [] else List.replicate (p.pad - 1).toNat 0 ++ [p.pad]
theorem bytes_eq (p : Pkt) : bytes p = p12 p ++ (p.mx.flatMap (be 4) ++ (extB p ++ (p.pl ++ trail p))) := by
  simp only [bytes, lead, tail, p12, extB, trail, x0, x1, List.append_assoc]
theorem p12_len (p : Pkt) : (p12 p).length = 12 := by simp [p12, be_len]
theorem flat4_len : ∀ l : List Int, (l.flatMap (be 4)).length = 4 * l.length
  | [] => rfl
  | a :: l => by simp [List.flatMap_cons, be_len, flat4_len l]; omega
theorem flat4_fld (A C : List Int) (l : List Int) (i : Nat) (hi : i < l.length) (hl : Within 0 4294967295 l) : fld (A ++ (l.flatMap (be 4) ++ C)) (A.length + 4 * i) 4 = l.getD i 0 := by
  have hs : l = l.take i ++ (l.getD i 0 :: l.drop (i + 1)) := by
    rw [List.getD_eq_getElem?_getD, List.getElem?_eq_getElem hi, Option.getD_some, ← List.drop_eq_getElem_cons hi, List.take_append_drop]
  have he : A ++ (l.flatMap (be 4) ++ C) = (A ++ (l.take i).flatMap (be 4)) ++ (be 4 (l.getD i 0) ++ ((l.drop (i + 1)).flatMap (be 4) ++ C)) := by
    have : l.flatMap (be 4) = (l.take i).flatMap (be 4) ++ (be 4 (l.getD i 0) ++ (l.drop (i + 1)).flatMap (be 4)) := by
      conv => lhs; rw [hs]
      rw [List.flatMap_append, List.flatMap_cons]
    rw [this]
    simp only [List.append_assoc]
  rw [he, fld_be _ _ _ _ _ (by rw [List.length_append, flat4_len, List.length_take]; omega)]
  obtain ⟨z0, z1⟩ := hl.at hi
  exact Int.emod_eq_of_lt z0 (by have : (256 : Int) ^ 4 = 4294967296 := rfl; omega)
section
variable {p : Pkt} (g : Good p)
theorem b0 (p : Pkt) : (bytes p).getD 0 0 = x0 p := by rw [bytes_eq]; rfl
theorem b1 (p : Pkt) : (bytes p).getD 1 0 = x1 p := by rw [bytes_eq]; rfl
theorem f2 (g : Good p) : fld (bytes p) 2 2 = p.sq := by
  have : bytes p = [x0 p, x1 p] ++ (be 2 p.sq ++ (be 4 p.ti ++ (be 4 p.so ++ (p.mx.flatMap (be 4) ++ (extB p ++ (p.pl ++ trail p)))))) := by
    rw [bytes_eq]; simp only [p12, List.append_assoc]
  rw [this, fld_be _ _ 2 _ _ rfl]
  exact Int.emod_eq_of_lt g.sq.1 (by have : (256 : Int) ^ 2 = 65536 := rfl; have := g.sq.2; omega)
theorem f4 (g : Good p) : fld (bytes p) 4 4 = p.ti := by
  have : bytes p = ([x0 p, x1 p] ++ be 2 p.sq) ++ (be 4 p.ti ++ (be 4 p.so ++ (p.mx.flatMap (be 4) ++ (extB p ++ (p.pl ++ trail p))))) := by
    rw [bytes_eq]; simp only [p12, List.append_assoc]
  rw [this, fld_be _ _ _ _ _ (by simp [be_len])]
  exact Int.emod_eq_of_lt g.ti.1 (by have : (256 : Int) ^ 4 = 4294967296 := rfl; have := g.ti.2; omega)
theorem f8 (g : Good p) : fld (bytes p) 8 4 = p.so := by
  have : bytes p = ([x0 p, x1 p] ++ be 2 p.sq ++ be 4 p.ti) ++ (be 4 p.so ++ (p.mx.flatMap (be 4) ++ (extB p ++ (p.pl ++ trail p)))) := by
    rw [bytes_eq]; simp only [p12, List.append_assoc]
  rw [this, fld_be _ _ _ _ _ (by simp [be_len])]
  exact Int.emod_eq_of_lt g.so.1 (by have : (256 : Int) ^ 4 = 4294967296 := rfl; have := g.so.2; omega)
theorem fek (g : Good p) (he : p.ex = true) : fld (bytes p) (12 + 4 * p.mx.length) 2 = p.ek := by
  have : bytes p = (p12 p ++ p.mx.flatMap (be 4)) ++ (be 2 p.ek ++ (be 2 ((p.et.length : Int) / 4) ++ p.et ++ (p.pl ++ trail p))) := by
    rw [bytes_eq]; simp only [extB, he, if_true, List.append_assoc]
  rw [this, fld_be _ _ _ _ _ (by rw [List.length_append, p12_len, flat4_len])]
  exact Int.emod_eq_of_lt g.ek.1 (by have : (256 : Int) ^ 2 = 65536 := rfl; have := g.ek.2; omega)
theorem fen (g : Good p) (he : p.ex = true) : fld (bytes p) (14 + 4 * p.mx.length) 2 = (p.et.length : Int) / 4 := by
  have : bytes p = (p12 p ++ p.mx.flatMap (be 4) ++ be 2 p.ek) ++ (be 2 ((p.et.length : Int) / 4) ++ (p.et ++ (p.pl ++ trail p))) := by
    rw [bytes_eq]; simp only [extB, he, if_true, List.append_assoc]
  rw [this, fld_be _ _ _ _ _ (by rw [List.length_append, List.length_append, p12_len, flat4_len, be_len]; omega)]
  have := g.let_
  exact Int.emod_eq_of_lt (by omega) (by have : (256 : Int) ^ 2 = 65536 := rfl; omega)
theorem extB_len (p : Pkt) : (extB p).length = if p.ex then 4 + p.et.length else 0 := by
  unfold extB
  split
  · simp [be_len]; omega
  · rfl
theorem trail_len (g : Good p) : ((trail p).length : Int) = p.pad := by
  unfold trail
  have := g.pad0
  split
  · simp; omega
  · simp; omega
theorem bytes_len (p : Pkt) : (bytes p).length = 12 + 4 * p.mx.length + (extB p).length + p.pl.length + (trail p).length := by
  rw [bytes_eq]
  simp only [List.length_append, p12_len, flat4_len]
  omega
theorem x0_facts (g : Good p) : x0 p / 64 = 2 ∧ x0 p % 16 = (p.mx.length : Int) ∧ x0 p / 16 % 2 = (if p.ex then 1 else 0) ∧ x0 p / 32 % 2 = (if p.pad = 0 then 0 else 1) := by
  have := g.lmx
  unfold x0
  cases p.ex <;> by_cases h : p.pad = 0 <;> simp [h] <;> omega
theorem many_eq (g : Good p) : many (bytes p) = p.mx.length := by unfold many; rw [b0, (x0_facts g).2.1]; omega
theorem ext_eq (g : Good p) : ext (bytes p) = p.ex := by
  unfold ext
  rw [b0, (x0_facts g).2.2.1]
  cases p.ex <;> simp
theorem chk_bytes (g : Good p) : chk (bytes p) = (0, 0) := by
  obtain ⟨h1, h2, h3, h4⟩ := x0_facts g
  have hl := bytes_len p
  unfold chk
  rw [if_neg (show ¬(bytes p).length = 0 by omega), b0, if_neg (show ¬x0 p / 64 ≠ 2 by omega), h2, if_neg (show ¬((bytes p).length : Int) < 12 + 4 * (p.mx.length : Int) by omega), h3]
  cases he : p.ex with
  | false => simp
  | true =>
    have e4 := g.et4
    have e5 := g.let_
    have hx := extB_len p
    rw [he, if_pos rfl] at hx
    rw [if_pos rfl, if_neg (by decide), if_neg (show ¬((bytes p).length : Int) < 12 + 4 * (p.mx.length : Int) + 4 by omega), Int.toNat_natCast, fen g he, if_neg (show ¬1020 < 4 * ((p.et.length : Int) / 4) by omega), if_neg (show ¬((bytes p).length : Int) < 12 + 4 * (p.mx.length : Int) + 4 + 4 * ((p.et.length : Int) / 4) by omega)]
theorem extN_eq (g : Good p) (he : p.ex = true) : extN (bytes p) = p.et.length := by
  unfold extN
  rw [many_eq g, fen g he]
  have := g.et4
  omega
theorem bodyAt_eq (g : Good p) : bodyAt (bytes p) = 12 + 4 * p.mx.length + (extB p).length := by
  unfold bodyAt
  rw [ext_eq g, extB_len, many_eq g]
  cases he : p.ex with
  | false => simp
  | true => rw [if_pos rfl, if_pos rfl, extN_eq g he]; omega
theorem drop_body (g : Good p) : (bytes p).drop (bodyAt (bytes p)) = p.pl ++ trail p := by
  rw [bodyAt_eq g, bytes_eq, show p12 p ++ (p.mx.flatMap (be 4) ++ (extB p ++ (p.pl ++ trail p))) = (p12 p ++ p.mx.flatMap (be 4) ++ extB p) ++ (p.pl ++ trail p) by simp only [List.append_assoc]]
  rw [List.drop_left' (by rw [List.length_append, List.length_append, p12_len, flat4_len])]
theorem pkt_eq (g : Good p) (n : Nat) (hn : (n : Int) = p.pad) : pkt (bytes p) n = p := by
  have hl := bytes_len p
  have ht := trail_len g
  have hb := bodyAt_eq g
  have e1 : decide (128 ≤ (bytes p).getD 1 0) = p.mark := by
    rw [b1]; unfold x1
    have := g.ty0; have := g.ty1
    cases p.mark <;> simp <;> omega
  have e2 : (bytes p).getD 1 0 % 128 = p.ty := by
    rw [b1]; unfold x1
    have := g.ty0; have := g.ty1
    cases p.mark <;> simp <;> omega
  have e3 : (List.range (many (bytes p))).map (fun i => fld (bytes p) (12 + 4 * i) 4) = p.mx := by
    rw [many_eq g]
    apply List.ext_getElem
    · simp
    · intro i h1 h2
      simp only [List.getElem_map, List.getElem_range]
      rw [bytes_eq, show 12 + 4 * i = (p12 p).length + 4 * i by rw [p12_len], flat4_fld _ _ _ _ h2 g.mx]
      simp [List.getD_eq_getElem?_getD, h2]
  have e4 : (if ext (bytes p) then fld (bytes p) (12 + 4 * many (bytes p)) 2 else 0) = p.ek := by
    rw [ext_eq g, many_eq g]
    cases he : p.ex with
    | false => exact (g.noex he).1.symm
    | true => rw [if_pos rfl]; exact fek g he
  have e5 : (if ext (bytes p) then ((bytes p).drop (16 + 4 * many (bytes p))).take (extN (bytes p)) else []) = p.et := by
    rw [ext_eq g, many_eq g]
    cases he : p.ex with
    | false => exact (g.noex he).2.symm
    | true =>
      rw [if_pos rfl, extN_eq g he]
      have : bytes p = (p12 p ++ p.mx.flatMap (be 4) ++ be 2 p.ek ++ be 2 ((p.et.length : Int) / 4)) ++ (p.et ++ (p.pl ++ trail p)) := by
        rw [bytes_eq]; simp only [extB, he, if_true, List.append_assoc]
      rw [this, List.drop_left' (by simp only [List.length_append, p12_len, flat4_len, be_len]; omega), List.take_left]
  have e6 : ((bytes p).drop (bodyAt (bytes p))).take ((bytes p).length - bodyAt (bytes p) - n) = p.pl := by
    rw [drop_body g, List.take_left' (by omega)]
  unfold pkt
  rw [e1, e2, f2 g, f4 g, f8 g, e3, e4, e5, e6, ext_eq g, hn]
theorem bad_zero (l : List Int) (x : List Int) : ∀ (k i : Nat), i + k ≤ l.length + k → (∀ j, i ≤ j → j < i + k → x.getD j 0 = 0) → bad x i k = none
  | 0, i, _, _ => rfl
  | k + 1, i, h, hz => by
    unfold bad
    rw [if_pos (hz i (Nat.le_refl _) (by omega))]
    exact bad_zero (l ++ [0]) x k (i + 1) (by simp; omega) (fun j h1 h2 => hz j (by omega) (by omega))
theorem padR_trail (g : Good p) (h : p.pad ≠ 0) : padR (p.pl ++ trail p) = (p.pad, 0, 0) := by
  have h0 := g.pad0
  obtain ⟨N, hN⟩ : ∃ N : Nat, p.pad = (N : Int) + 1 := ⟨(p.pad - 1).toNat, by omega⟩
  have ht : trail p = List.replicate N 0 ++ [(N : Int) + 1] := by
    unfold trail
    rw [if_neg h, hN]
    rw [show ((N : Int) + 1 - 1).toNat = N by omega]
  have hlen : (p.pl ++ trail p).length = p.pl.length + N + 1 := by rw [ht]; simp; omega
  have hlast : (p.pl ++ trail p).getD ((p.pl ++ trail p).length - 1) 0 = (N : Int) + 1 := by
    rw [hlen, ht]
    simp only [List.getD_eq_getElem?_getD]
    rw [List.getElem?_append_right (by omega), List.getElem?_append_right (by simp)]
    simp
  unfold padR
  rw [if_neg (show ¬(p.pl ++ trail p).length = 0 by omega), hlast, if_neg (show ¬((N : Int) + 1 = 0 ∨ ((p.pl ++ trail p).length : Int) < (N : Int) + 1) by omega)]
  have hb : bad (p.pl ++ trail p) ((p.pl ++ trail p).length - ((N : Int) + 1).toNat) (((N : Int) + 1).toNat - 1) = none := by
    rw [hlen, show ((N : Int) + 1).toNat = N + 1 by omega, show p.pl.length + N + 1 - (N + 1) = p.pl.length by omega, show N + 1 - 1 = N by omega]
    refine bad_zero p.pl _ N _ (by omega) (fun j h1 h2 => ?_)
    rw [ht]
    simp only [List.getD_eq_getElem?_getD]
    rw [List.getElem?_append_right h1, List.getElem?_append_left (by simp; omega)]
    simp [show j - p.pl.length < N by omega]
  rw [hb, hN]
  rfl
theorem dec_enc (g : Good p) : dec (bytes p) = (p, 0, 0) := by
  obtain ⟨h1, h2, h3, h4⟩ := x0_facts g
  have hl := bytes_len p
  have ht := trail_len g
  have hb := bodyAt_eq g
  have hp := g.lpl
  have hf : ∀ n : Nat, (n : Int) = p.pad → fin (bytes p) n = (p, 0, 0) := fun n hn => by
    unfold fin
    rw [if_neg (by omega), pkt_eq g n hn]
  unfold dec
  rw [if_neg (by rw [chk_bytes g]; simp), b0, h4]
  by_cases h : p.pad = 0
  · rw [if_pos h, if_neg (by decide)]
    exact hf 0 (by omega)
  · rw [if_neg h, if_pos rfl]
    unfold decP
    rw [drop_body g, padR_trail g h, if_neg (by simp)]
    have := g.pad0
    exact hf _ (by simp only; omega)
end
theorem fld_short (bs : List Int) (n i k : Nat) (h : i + k ≤ n) : fld (bs.take n) i k = fld bs i k := by
  unfold fld
  rw [List.drop_take, List.take_take, Nat.min_eq_left (by omega)]
theorem dec_cut {p : Pkt} (g : Good p) (hpl : p.pl = []) (hpad : p.pad = 0) (n : Nat) (hn : n < (bytes p).length) : dec ((bytes p).take n) = (Pkt.zero, (n : Int), 6) := by
  obtain ⟨h1, h2, h3, h4⟩ := x0_facts g
  have hl := bytes_len p
  have ht := trail_len g
  have hx := extB_len p
  have hlen : ((bytes p).take n).length = n := by rw [List.length_take]; omega
  have hb0 : 0 < n → ((bytes p).take n).getD 0 0 = x0 p := fun h0 => by
    rw [← b0 p, List.getD_eq_getElem?_getD, List.getD_eq_getElem?_getD, List.getElem?_take_of_lt h0]
  rw [hpl] at hl
  rw [hpad] at ht
  have hc : chk ((bytes p).take n) = ((n : Int), 6) := by
    unfold chk
    rw [hlen]
    by_cases h0 : n = 0
    · rw [if_pos h0, h0]; rfl
    rw [if_neg h0, hb0 (by omega), if_neg (show ¬x0 p / 64 ≠ 2 by omega), h2]
    by_cases h5 : (n : Int) < 12 + 4 * (p.mx.length : Int)
    · rw [if_pos h5]
    rw [if_neg h5, h3]
    cases he : p.ex with
    | false =>
      have hx' : (extB p).length = 0 := by rw [hx, he]; rfl
      simp only [List.length_nil] at hl
      omega
    | true =>
      rw [he, if_pos rfl] at hx
      simp only [List.length_nil] at hl
      have e4 := g.et4
      have e5 := g.let_
      rw [if_pos rfl, if_neg (by decide), Int.toNat_natCast]
      by_cases h6 : (n : Int) < 12 + 4 * (p.mx.length : Int) + 4
      · rw [if_pos h6]
      rw [if_neg h6, fld_short _ _ _ _ (by omega), fen g he, if_neg (by omega), if_pos (by omega)]
  unfold dec
  rw [hc, if_pos (show (6 : Int) ≠ 0 by decide)]
theorem cut0 (bs : List Int) (h : 2 ≤ bs.length) : [bs.getD 0 0, bs.getD 1 0] = (bs.drop 0).take 2 := by
  match bs, h with
  | a :: b :: l, _ => rfl
theorem flat_cut (bs : List Int) (hz : Within 0 255 bs) : ∀ m : Nat, 12 + 4 * m ≤ bs.length → ((List.range m).map (fun i => fld bs (12 + 4 * i) 4)).flatMap (be 4) = (bs.drop 12).take (4 * m)
  | 0, _ => rfl
  | m + 1, h => by
    rw [List.range_succ, List.map_append, List.flatMap_append, flat_cut bs hz m (by omega)]
    simp only [List.map_cons, List.map_nil, List.flatMap_cons, List.flatMap_nil, List.append_nil]
    rw [be_fld bs hz _ 4 (by omega), cut_join bs 12 (4 * m) 4]
    rfl
theorem bad_none (x : List Int) : ∀ (k i : Nat), bad x i k = none → ∀ j, i ≤ j → j < i + k → x.getD j 0 = 0
  | 0, i, _, j, h1, h2 => by omega
  | k + 1, i, h, j, h1, h2 => by
    unfold bad at h
    by_cases h0 : x.getD i 0 = 0
    · rw [if_pos h0] at h
      by_cases hj : j = i
      · rw [hj]; exact h0
      · exact bad_none x k (i + 1) h j (by omega) (by omega)
    · rw [if_neg h0] at h; cases h
theorem padR_zero (l : List Int) (hz : Within 0 255 l) (h : (padR l).2.2 = 0) : ∃ N : Nat, (padR l).1 = (N : Int) ∧ 1 ≤ N ∧ N ≤ l.length ∧ N ≤ 255 ∧ l.drop (l.length - N) = List.replicate (N - 1) 0 ++ [(N : Int)] := by
  unfold padR at h ⊢
  by_cases h1 : l.length = 0
  · rw [if_pos h1] at h; cases h
  rw [if_neg h1] at h ⊢
  by_cases h2 : l.getD (l.length - 1) 0 = 0 ∨ (l.length : Int) < l.getD (l.length - 1) 0
  · rw [if_pos h2] at h; cases h
  rw [if_neg h2] at h ⊢
  obtain ⟨z0, z1⟩ := hz.at (i := l.length - 1) (by omega)
  obtain ⟨N, hN⟩ : ∃ N : Nat, l.getD (l.length - 1) 0 = (N : Int) := ⟨_, (Int.toNat_of_nonneg z0).symm⟩
  rw [hN] at h h2 z1 ⊢
  rw [Int.toNat_natCast] at h ⊢
  cases hb : bad l (l.length - N) (N - 1) with
  | some j => rw [hb] at h; cases h
  | none =>
    refine ⟨N, rfl, by omega, by omega, by omega, ?_⟩
    have hbn := bad_none l _ _ hb
    apply List.ext_getElem
    · simp; omega
    · intro i g1 g2
      have gl : i < N := by simp at g1; omega
      rw [List.getElem_drop]
      by_cases hi : i < N - 1
      · rw [List.getElem_append_left (by simpa using hi), List.getElem_replicate]
        have := hbn (l.length - N + i) (by omega) (by omega)
        rw [List.getD_eq_getElem?_getD, List.getElem?_eq_getElem (by omega)] at this
        exact this
      · rw [List.getElem_append_right (by simp; omega)]
        simp
        rw [List.getD_eq_getElem?_getD, List.getElem?_eq_getElem (by omega)] at hN
        have hi2 : l.length - N + i = l.length - 1 := by omega
        simp only [hi2]
        exact hN
/-- the bytes of the packet that has been read -/
theorem bytes_pkt (bs : List Int) (hz : Within 0 255 bs) (h : (chk bs).2 = 0) (h64 : bs.getD 0 0 / 64 = 2) (N : Nat) (hN : bodyAt bs + N ≤ bs.length) (hp : (N = 0 ∧ bs.getD 0 0 / 32 % 2 = 0) ∨ (1 ≤ N ∧ bs.getD 0 0 / 32 % 2 = 1 ∧ bs.drop (bs.length - N) = List.replicate (N - 1) 0 ++ [(N : Int)])) : bytes (pkt bs N) = bs := by
  obtain ⟨hc1, hl12, hmm, hx⟩ := chk_ok bs hz h
  obtain ⟨z0, z1⟩ := hz.at (i := 0) (by omega)
  obtain ⟨y0, y1⟩ := hz.at (i := 1) (by omega)
  have hpad : (pkt bs N).pad = (N : Int) := rfl
  have e0 : x0 (pkt bs N) = bs.getD 0 0 := by
    unfold x0
    have e1 : (pkt bs N).mx.length = many bs := by simp [pkt]
    have e2 : (pkt bs N).ex = ext bs := rfl
    rw [e1, e2, hpad]
    have e3 : (if ext bs then (16 : Int) else 0) = 16 * (bs.getD 0 0 / 16 % 2) := by
      unfold ext
      by_cases h2 : bs.getD 0 0 / 16 % 2 = 1
      · rw [h2]; simp
      · have h3 : bs.getD 0 0 / 16 % 2 = 0 := by omega
        rw [h3]; simp
    have e4 : (if (N : Int) = 0 then (0 : Int) else 32) = 32 * (bs.getD 0 0 / 32 % 2) := by
      rcases hp with ⟨rfl, h2⟩ | ⟨h1, h2, _⟩
      · rw [h2]; rfl
      · rw [h2, if_neg (by omega)]; rfl
    rw [e3, e4]
    omega
  have e1 : x1 (pkt bs N) = bs.getD 1 0 := by
    show bs.getD 1 0 % 128 + (if decide (128 ≤ bs.getD 1 0) then 128 else 0) = bs.getD 1 0
    by_cases h2 : 128 ≤ bs.getD 1 0
    · rw [decide_eq_true h2, if_pos rfl]; omega
    · rw [decide_eq_false h2, if_neg (by decide)]; omega
  have eB : ∃ X, extB (pkt bs N) = (bs.drop (12 + 4 * many bs)).take X ∧ bodyAt bs = 12 + 4 * many bs + X := by
    show ∃ X, (if ext bs then be 2 (if ext bs then fld bs (12 + 4 * many bs) 2 else 0) ++ be 2 (((if ext bs then (bs.drop (16 + 4 * many bs)).take (extN bs) else []).length : Int) / 4) ++ (if ext bs then (bs.drop (16 + 4 * many bs)).take (extN bs) else []) else []) = _ ∧ _
    cases he : ext bs with
    | false => exact ⟨0, rfl, by unfold bodyAt; rw [he]; rfl⟩
    | true =>
      obtain ⟨hx1, hx2, hx3⟩ := hx he
      simp only [if_true]
      have hlen : ((bs.drop (16 + 4 * many bs)).take (extN bs)).length = extN bs := by simp; omega
      refine ⟨4 + extN bs, ?_, by unfold bodyAt; rw [he, if_pos rfl]; omega⟩
      rw [hlen, hx3, show 4 * fld bs (14 + 4 * many bs) 2 / 4 = fld bs (14 + 4 * many bs) 2 by omega, be_fld bs hz _ 2 (by omega), be_fld bs hz _ 2 (by omega),
        show 14 + 4 * many bs = 12 + 4 * many bs + 2 by omega, cut_join, show 16 + 4 * many bs = 12 + 4 * many bs + (2 + 2) by omega, cut_join]
  obtain ⟨X, hX, hBX⟩ := eB
  have eT : trail (pkt bs N) = (bs.drop (bs.length - N)).take N := by
    unfold trail
    rw [hpad]
    rcases hp with ⟨rfl, h2⟩ | ⟨h1, h2, h3⟩
    · rfl
    · rw [if_neg (by omega), h3, show ((N : Int) - 1).toNat = N - 1 by omega, List.take_of_length_le (by simp; omega)]
  have eM : (pkt bs N).mx.flatMap (be 4) = (bs.drop 12).take (4 * many bs) := flat_cut bs hz _ hl12
  have eP : (pkt bs N).pl = (bs.drop (12 + 4 * many bs + X)).take (bs.length - bodyAt bs - N) := by
    rw [← hBX]; rfl
  have e12 : p12 (pkt bs N) = (bs.drop 0).take 12 := by
    show [x0 (pkt bs N), x1 (pkt bs N)] ++ be 2 (fld bs 2 2) ++ be 4 (fld bs 4 4) ++ be 4 (fld bs 8 4) = _
    rw [e0, e1, cut0 bs (by omega), be_fld bs hz _ 2 (by omega), be_fld bs hz _ 4 (by omega), be_fld bs hz _ 4 (by omega)]
    have j1 := cut_join bs 0 2 2
    have j2 := cut_join bs 0 4 4
    have j3 := cut_join bs 0 8 4
    simp only [Nat.zero_add, Nat.reduceAdd] at j1 j2 j3
    rw [j1, j2, j3]
  rw [bytes_eq, e12, eM, hX, eP, eT]
  have j1 := cut_join bs 0 12 (4 * many bs)
  have j2 := cut_join bs 0 (12 + 4 * many bs) X
  have j3 := cut_join bs 0 (12 + 4 * many bs + X) (bs.length - bodyAt bs - N)
  have j4 := cut_join bs 0 (12 + 4 * many bs + X + (bs.length - bodyAt bs - N)) N
  simp only [Nat.zero_add] at j1 j2 j3 j4
  rw [← List.append_assoc, ← List.append_assoc, ← List.append_assoc, j1, j2, j3, show bs.length - N = 12 + 4 * many bs + X + (bs.length - bodyAt bs - N) by omega, j4]
  rw [List.drop_zero, List.take_of_length_le (by omega)]
theorem err_pkt (bs : List Int) (hz : Within 0 255 bs) (h : (chk bs).2 = 0) (N : Nat) (hN : bodyAt bs + N ≤ bs.length) (h255 : N ≤ 255) (h15 : bs.length - bodyAt bs - N ≤ 1500) : err (pkt bs N) = 0 := by
  obtain ⟨hc1, hl12, hmm, hx⟩ := chk_ok bs hz h
  have hm15 : many bs ≤ 15 := by
    have := hmm
    omega
  unfold err
  have a1 : (pkt bs N).ty = bs.getD 1 0 % 128 := rfl
  have a2 : (pkt bs N).pad = (N : Int) := rfl
  have a3 : (pkt bs N).mx.length = many bs := by simp [pkt]
  have a4 : (pkt bs N).pl.length = bs.length - bodyAt bs - N := by simp [pkt]
  have a5 : (pkt bs N).et.length = if ext bs then extN bs else 0 := by
    show (if ext bs then (bs.drop (16 + 4 * many bs)).take (extN bs) else []).length = _
    cases he : ext bs with
    | false => rfl
    | true =>
      obtain ⟨hx1, _, _⟩ := hx he
      rw [if_pos rfl, if_pos rfl]
      simp; omega
  have a6 : (pkt bs N).ex = ext bs := rfl
  have a7 : ext bs = false → (pkt bs N).ek = 0 := fun he => by
    show (if ext bs then _ else (0 : Int)) = 0
    rw [he]; rfl
  have a8 : (if ext bs then extN bs else 0) % 4 = 0 ∧ (if ext bs then extN bs else 0) ≤ 1020 := by
    cases he : ext bs with
    | false => exact ⟨rfl, by simp⟩
    | true =>
      obtain ⟨hx1, hx2, hx3⟩ := hx he
      rw [if_pos rfl]
      exact ⟨by omega, hx2⟩
  rw [a1, a2, if_neg (by omega), a5, a6, a3, a4]
  rw [if_neg (fun hc => ?_), if_neg (by omega)]
  rcases hc with ⟨he, hc⟩ | hc
  · rw [a7 he, he] at hc
    simp at hc
  · exact hc a8.1
theorem dec_ok (bs : List Int) (hz : Within 0 255 bs) (q : Pkt) (n : Int) (h : dec bs = (q, n, 0)) : enc q = (bs, 0) ∧ ∃ N, q = pkt bs N ∧ bodyAt bs + N ≤ bs.length ∧ (chk bs).2 = 0 := by
  unfold dec at h
  by_cases hc : (chk bs).2 = 0
  case neg =>
    rw [if_pos hc] at h
    injection h with h1 h2
    injection h2 with h2 h3
    exact absurd h3 hc
  rw [if_neg (fun h2 => h2 hc)] at h
  obtain ⟨hc1, hl12, hmm, hx⟩ := chk_ok bs hz hc
  have h64 := chk_ver_ok' bs hc
  have hb : bodyAt bs ≤ bs.length := by
    unfold bodyAt
    cases he : ext bs with
    | false => simp; omega
    | true => have := (hx he).1; rw [if_pos rfl]; omega
  have fin_ok : ∀ N : Nat, bodyAt bs + N ≤ bs.length → N ≤ 255 → ((N = 0 ∧ bs.getD 0 0 / 32 % 2 = 0) ∨ (1 ≤ N ∧ bs.getD 0 0 / 32 % 2 = 1 ∧ bs.drop (bs.length - N) = List.replicate (N - 1) 0 ++ [(N : Int)])) → fin bs N = (q, n, 0) → enc q = (bs, 0) ∧ ∃ N, q = pkt bs N ∧ bodyAt bs + N ≤ bs.length ∧ (chk bs).2 = 0 := fun N h1 h2 h3 h4 => by
    unfold fin at h4
    by_cases h5 : 1500 < bs.length - bodyAt bs - N
    · rw [if_pos h5] at h4
      injection h4 with _ h4
      injection h4 with _ h4
      cases h4
    rw [if_neg h5] at h4
    injection h4 with h4 _
    subst h4
    refine ⟨?_, N, rfl, h1, hc⟩
    unfold enc
    rw [if_pos (err_pkt bs hz hc N h1 h2 (by omega)), bytes_pkt bs hz hc h64 N h1 h3]
  by_cases hp : bs.getD 0 0 / 32 % 2 = 1
  · rw [if_pos hp] at h
    unfold decP at h
    by_cases he : (padR (bs.drop (bodyAt bs))).2.2 ≠ 0
    · rw [if_pos he] at h
      injection h with _ h
      injection h with _ h
      exact absurd h he
    rw [if_neg he] at h
    have he0 : (padR (bs.drop (bodyAt bs))).2.2 = 0 := Classical.not_not.1 he
    obtain ⟨N, hN, h1, h2, h3, h4⟩ := padR_zero _ (hz.drop _) he0
    rw [hN, Int.toNat_natCast] at h
    simp only [List.length_drop] at h2 h4
    rw [List.drop_drop, show bodyAt bs + (bs.length - bodyAt bs - N) = bs.length - N by omega] at h4
    exact fin_ok N (by omega) h3 (Or.inr ⟨h1, hp, h4⟩) h
  · rw [if_neg hp] at h
    exact fin_ok 0 (by omega) (by omega) (Or.inl ⟨rfl, by omega⟩) h
theorem fin_bad (bs : List Int) (N : Nat) (hb : bodyAt bs ≤ bs.length) (q : Pkt) (n e : Int) (h : fin bs N = (q, n, e)) (he : e ≠ 0) : q = Pkt.zero ∧ 0 ≤ n ∧ n ≤ bs.length := by
  unfold fin at h
  by_cases h5 : 1500 < bs.length - bodyAt bs - N
  · rw [if_pos h5] at h
    injection h with h1 h
    injection h with h2 h3
    subst h1 h2
    exact ⟨rfl, by omega, by omega⟩
  · rw [if_neg h5] at h
    injection h with h1 h
    injection h with h2 h3
    exact absurd h3.symm he
theorem chk_at (bs : List Int) (hz : Within 0 255 bs) (h : (chk bs).2 ≠ 0) : 0 ≤ (chk bs).1 ∧ (chk bs).1 ≤ bs.length := by
  unfold chk at h ⊢
  split
  · simp
  split
  · simp
  have := hz.at (i := 0) (by omega)
  split
  · simp
  split
  · simp
  split
  · simp
  split
  · simp only; omega
  split
  · simp
  · simp
theorem dec_bad (bs : List Int) (hz : Within 0 255 bs) (q : Pkt) (n e : Int) (h : dec bs = (q, n, e)) (he : e ≠ 0) : q = Pkt.zero ∧ 0 ≤ n ∧ n ≤ bs.length := by
  unfold dec at h
  by_cases hc : (chk bs).2 = 0
  case neg =>
    rw [if_pos hc] at h
    have := chk_at bs hz hc
    injection h with h1 h2
    injection h2 with h2 h3
    subst h1 h2
    exact ⟨rfl, this.1, this.2⟩
  rw [if_neg (fun h2 => h2 hc)] at h
  obtain ⟨hc1, hl12, hmm, hx⟩ := chk_ok bs hz hc
  have hb : bodyAt bs ≤ bs.length := by
    unfold bodyAt
    cases he : ext bs with
    | false => simp; omega
    | true => have := (hx he).1; rw [if_pos rfl]; omega
  have hb12 : 12 ≤ bodyAt bs := by
    unfold bodyAt
    split <;> omega
  by_cases hp : bs.getD 0 0 / 32 % 2 = 1
  · rw [if_pos hp] at h
    unfold decP at h
    by_cases hr : (padR (bs.drop (bodyAt bs))).2.2 ≠ 0
    · rw [if_pos hr] at h
      have := padR_err _ hr
      rw [List.length_drop] at this
      injection h with h1 h
      injection h with h2 h3
      subst h1 h2
      exact ⟨rfl, by omega, by omega⟩
    · rw [if_neg hr] at h
      exact fin_bad bs _ hb q n e h he
  · rw [if_neg hp] at h
    exact fin_bad bs _ hb q n e h he
theorem within_rep (n : Nat) : Within 0 255 (List.replicate n 0) := fun z hz => by rw [List.eq_of_mem_replicate hz]; omega
theorem bytes_facts {p : Pkt} (g : Good p) : Within 0 255 (bytes p) ∧ 12 ≤ (bytes p).length ∧ (bytes p).length ≤ 6000 := by
  have hl := bytes_len p
  have ht := trail_len g
  have hx := extB_len p
  have h1 := g.lmx
  have h2 := g.let_
  have h3 := g.lpl
  have h4 := g.pad1
  have h5 : (extB p).length ≤ 1024 := by rw [hx]; split <;> omega
  refine ⟨?_, by omega, by omega⟩
  have w12 : Within 0 255 (p12 p) := by
    unfold p12
    refine Within.append (Within.append (Within.append ?_ (be_bd _ _)) (be_bd _ _)) (be_bd _ _)
    intro z hz
    have e0 : 0 ≤ x0 p ∧ x0 p ≤ 255 := by
      unfold x0
      constructor <;> (split <;> split <;> omega)
    have e1 : 0 ≤ x1 p ∧ x1 p ≤ 255 := by
      have := g.ty0; have := g.ty1
      unfold x1
      constructor <;> (split <;> omega)
    simp at hz
    rcases hz with rfl | rfl
    · exact e0
    · exact e1
  have wf : Within 0 255 (p.mx.flatMap (be 4)) := by
    intro z hz
    obtain ⟨a, _, ha⟩ := List.mem_flatMap.1 hz
    exact be_bd 4 a z ha
  have we : Within 0 255 (extB p) := by
    unfold extB
    split
    · exact Within.append (Within.append (be_bd _ _) (be_bd _ _)) g.et
    · exact Within.nil _ _
  have wt : Within 0 255 (trail p) := by
    unfold trail
    split
    · exact Within.nil _ _
    · refine Within.append (within_rep _) ?_
      intro z hz
      simp at hz
      subst hz
      exact ⟨g.pad0, g.pad1⟩
  rw [bytes_eq]
  exact Within.append w12 (Within.append wf (Within.append we (Within.append g.pl wt)))
theorem pkt_facts (bs : List Int) (hz : Within 0 255 bs) (N : Nat) (hc : (chk bs).2 = 0) : 0 ≤ (pkt bs N).ty ∧ (0 ≤ (pkt bs N).sq ∧ (pkt bs N).sq ≤ 65535) ∧ (0 ≤ (pkt bs N).ti ∧ (pkt bs N).ti ≤ 4294967295) ∧ (0 ≤ (pkt bs N).so ∧ (pkt bs N).so ≤ 4294967295) ∧ (0 ≤ (pkt bs N).ek ∧ (pkt bs N).ek ≤ 65535) ∧ Within 0 4294967295 (pkt bs N).mx ∧ (pkt bs N).mx.length ≤ 15 ∧ (pkt bs N).et.length ≤ bs.length ∧ (pkt bs N).pl.length ≤ bs.length := by
  obtain ⟨hc1, hl12, hmm, hx⟩ := chk_ok bs hz hc
  have hm15 : many bs ≤ 15 := by omega
  obtain ⟨y0, y1⟩ := hz.at (i := 1) (by omega)
  have q2 : (256 : Int) ^ 2 = 65536 := rfl
  have q4 : (256 : Int) ^ 4 = 4294967296 := rfl
  obtain ⟨a1, a2⟩ := fld_bd bs 2 2 hz (by omega)
  obtain ⟨b1, b2⟩ := fld_bd bs 4 4 hz (by omega)
  obtain ⟨c1, c2⟩ := fld_bd bs 8 4 hz (by omega)
  refine ⟨?_, ⟨a1, ?_⟩, ⟨b1, ?_⟩, ⟨c1, ?_⟩, ?_, ?_, ?_, ?_, ?_⟩
  · show 0 ≤ bs.getD 1 0 % 128; omega
  · show fld bs 2 2 ≤ 65535; omega
  · show fld bs 4 4 ≤ 4294967295; omega
  · show fld bs 8 4 ≤ 4294967295; omega
  · show 0 ≤ (if ext bs then fld bs (12 + 4 * many bs) 2 else 0) ∧ (if ext bs then fld bs (12 + 4 * many bs) 2 else 0) ≤ 65535
    cases he : ext bs with
    | false => simp
    | true =>
      obtain ⟨hx1, _, _⟩ := hx he
      obtain ⟨d1, d2⟩ := fld_bd bs (12 + 4 * many bs) 2 hz (by omega)
      rw [if_pos rfl]
      omega
  · intro z hz2
    obtain ⟨i, hi, rfl⟩ := List.mem_map.1 (show z ∈ (List.range (many bs)).map (fun i => fld bs (12 + 4 * i) 4) from hz2)
    have hi2 := List.mem_range.1 hi
    obtain ⟨d1, d2⟩ := fld_bd bs (12 + 4 * i) 4 hz (by omega)
    omega
  · show ((List.range (many bs)).map _).length ≤ 15
    simp; omega
  · show (if ext bs then (bs.drop (16 + 4 * many bs)).take (extN bs) else []).length ≤ _
    split
    · simp; omega
    · simp
  · show ((bs.drop (bodyAt bs)).take _).length ≤ _
    simp; omega
end Pk
end Go.Proofs.Ytbpcpgmbfnmacaa
