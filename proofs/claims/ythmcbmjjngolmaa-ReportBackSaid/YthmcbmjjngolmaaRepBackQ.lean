/- Layer 26: encoding what has been decoded gives the bytes; no program in sight. -/
import Derived.Test.YthmcbmjjngolmaaRepBackP
namespace Go.Proofs.Ythmcbmjjngolmaa
open Go.RowKit
set_option linter.unusedVariables false
theorem fld_lim (bs : List Int) (hz : Within 0 255 bs) (i : Nat) (h : i + 4 ≤ bs.length) : 0 ≤ fld bs i 4 ∧ fld bs i 4 ≤ 4294967295 := by
  obtain ⟨h1, h2⟩ := fld_bd bs i 4 hz h
  have : (256 : Int) ^ 4 = 4294967296 := by decide
  omega
namespace Rep
theorem bytes_of (bs : List Int) (hz : Within 0 255 bs) (p : Nat) (h : p + 24 ≤ bs.length) : (blockAt bs p).bytes = (bs.drop p).take 24 ∧ (blockAt bs p).fit ∧ (blockAt bs p).ok := by
  obtain ⟨t0, t1⟩ := fld_bd bs (p + 5) 3 hz (by omega)
  obtain ⟨u0, u1⟩ := fld_bd bs (p + 4) 1 hz (by omega)
  have h3 : (256 : Int) ^ 3 = 16777216 := by decide
  have h1 : (256 : Int) ^ 1 = 256 := by decide
  rw [h3] at t1
  rw [h1] at u1
  refine ⟨?_, ?_, fld_lim bs hz p (by omega), ⟨u0, by simp only [blockAt]; omega⟩, ?_, fld_lim bs hz (p + 8) (by omega), fld_lim bs hz (p + 12) (by omega), fld_lim bs hz (p + 16) (by omega), fld_lim bs hz (p + 20) (by omega)⟩
  · have hl : be 3 (if 8388608 ≤ fld bs (p + 5) 3 then fld bs (p + 5) 3 - 16777216 else fld bs (p + 5) 3) = be 3 (fld bs (p + 5) 3) := by
      split
      · have := be_add 3 (fld bs (p + 5) 3) (-1)
        have h3 : (256 : Int) ^ 3 = 16777216 := by decide
        rw [h3] at this
        rw [← this]
        congr 1
      · rfl
    unfold Bk.bytes blockAt
    simp only [hl]
    rw [be_fld bs hz p 4 (by omega), be_fld bs hz (p + 4) 1 (by omega), be_fld bs hz (p + 5) 3 (by omega), be_fld bs hz (p + 8) 4 (by omega), be_fld bs hz (p + 12) 4 (by omega), be_fld bs hz (p + 16) 4 (by omega), be_fld bs hz (p + 20) 4 (by omega)]
    rw [cut_join bs p 4 1, cut_join bs p 5 3, cut_join bs (p + 8) 4 4, cut_join bs (p + 8) 8 4, cut_join bs (p + 8) 12 4, cut_join bs p 8 16]
  · unfold Bk.fit blockAt
    simp only
    split <;> omega
  · unfold blockAt
    simp only
    split <;> omega
theorem flat_of (bs : List Int) (hz : Within 0 255 bs) (p : Nat) : ∀ m : Nat, p + 24 * m ≤ bs.length → ((List.range m).map (fun i => blockAt bs (p + 24 * i))).flatMap Bk.bytes = (bs.drop p).take (24 * m)
  | 0, _ => by simp
  | m + 1, h => by
    rw [List.range_succ, List.map_append, List.flatMap_append, flat_of bs hz p m (by omega)]
    simp only [List.map_cons, List.map_nil, List.flatMap_cons, List.flatMap_nil, List.append_nil]
    rw [(bytes_of bs hz (p + 24 * m) (by omega)).1, cut_join bs p (24 * m) 24]
    congr 1
theorem take2 (bs : List Int) (h : 2 ≤ bs.length) : bs.take 2 = [bs.getD 0 0, bs.getD 1 0] := by
  match bs, h with
  | a :: b :: l, _ => rfl
/-- what has been decoded encodes to the bytes -/
theorem enc_dec (bs : List Int) (hz : Within 0 255 bs) (h0 : (dec bs).2.2 = 0) : enc (dec bs).1 = (bs.take (dec bs).2.1.toNat, 0) ∧ (dec bs).1.ok := by
  unfold dec at h0 ⊢
  by_cases c1 : bs.length < 4
  · rw [if_pos c1] at h0; simp at h0
  rw [if_neg c1] at h0 ⊢
  by_cases c2 : bs.getD 0 0 / 32 ≠ 4
  · rw [if_pos c2] at h0; simp at h0
  rw [if_neg c2] at h0 ⊢
  by_cases c3 : bs.getD 1 0 ≠ 200 ∧ bs.getD 1 0 ≠ 201
  · rw [if_pos c3] at h0; simp at h0
  rw [if_neg c3] at h0 ⊢
  by_cases c4 : 256 * bs.getD 2 0 + bs.getD 3 0 + 1 ≠ sizeR (bs.getD 1 0 == 200) (bs.getD 0 0 % 32).toNat / 4
  · rw [if_pos c4] at h0; simp at h0
  rw [if_neg c4] at h0 ⊢
  by_cases c5 : (bs.length : Int) < sizeR (bs.getD 1 0 == 200) (bs.getD 0 0 % 32).toNat
  · rw [if_pos c5] at h0; simp at h0
  rw [if_neg c5] at h0 ⊢
  simp only
  obtain ⟨m0, n0⟩ := hz.at (i := 0) (by omega)
  obtain ⟨m, hm⟩ : ∃ m, m = (bs.getD 0 0 % 32).toNat := ⟨_, rfl⟩
  obtain ⟨s, hs⟩ : ∃ s, s = (bs.getD 1 0 == 200) := ⟨_, rfl⟩
  rw [← hm, ← hs] at c4 c5 ⊢
  have hm1 : bs.getD 0 0 = 128 + (m : Int) := by omega
  have hk : bs.getD 1 0 = if s then 200 else 201 := by
    rw [hs]
    by_cases h : bs.getD 1 0 = 200
    · rw [h]; rfl
    · have : bs.getD 1 0 = 201 := by omega
      rw [this]; rfl
  have hsz := sizeR_val s m
  have hy : sizeR s m / 4 - 1 = fld bs 2 2 := by
    have := fld_take bs 2 1 (by omega)
    have h1 := fld_take bs 2 0 (by omega)
    have h2 : fld bs 2 0 = 0 := by simp [fld, val]
    rw [this, h1, h2]
    simp only [Nat.add_zero, Nat.reduceAdd]
    omega
  have hF : (if s then (28 : Nat) else 8) + 24 * m ≤ bs.length := by
    rw [hsz] at c5
    cases s <;> simp at c5 ⊢ <;> omega
  have hlen : (Rpt.of bs s m).blocks.length = m := by simp [Rpt.of]
  have hbl : ∀ b ∈ (Rpt.of bs s m).blocks, b.fit ∧ b.ok := by
    intro b hb
    simp only [Rpt.of, List.mem_map, List.mem_range] at hb
    obtain ⟨i, hi, rfl⟩ := hb
    exact (bytes_of bs hz (frontLen s + 24 * i) (by unfold frontLen; cases s <;> simp at hF ⊢ <;> omega)).2
  have hflat : (Rpt.of bs s m).blocks.flatMap Bk.bytes = (bs.drop (if s then 28 else 8)).take (24 * m) := by
    have := flat_of bs hz (frontLen s) m (by unfold frontLen; exact hF)
    simpa [Rpt.of, frontLen] using this
  have hbytes : (Rpt.of bs s m).bytes = bs.take (sizeR s m).toNat := by
    have hn : (sizeR s m).toNat = (if s then 28 else 8) + 24 * m := by
      rw [hsz]; cases s <;> simp <;> omega
    rw [hn]
    unfold Rpt.bytes Rpt.front
    have hs2 : (Rpt.of bs s m).sender = s := rfl
    rw [hflat, hlen, hs2, hy, ← hm1, ← hk, be_fld bs hz 2 2 (by omega), ← take2 bs (by omega)]
    have z : ∀ j, bs.take j = (bs.drop 0).take j := fun j => by rw [List.drop_zero]
    rw [z 2, z, cut_join bs 0 2 2]
    cases s
    · simp only [Bool.false_eq_true, if_false] at hF ⊢
      rw [List.append_nil, show (Rpt.of bs false m).source = fld bs 4 4 from rfl, be_fld bs hz 4 4 (by omega), cut_join bs 0 4 4, cut_join bs 0 8 (24 * m)]
    · simp only [if_true] at hF ⊢
      rw [show (Rpt.of bs true m).source = fld bs 4 4 from rfl, show (Rpt.of bs true m).clock = fld bs 8 8 from rfl, show (Rpt.of bs true m).time = fld bs 16 4 from rfl, show (Rpt.of bs true m).packets = fld bs 20 4 from rfl, show (Rpt.of bs true m).octets = fld bs 24 4 from rfl]
      rw [be_fld bs hz 4 4 (by omega), be_fld bs hz 8 8 (by omega), be_fld bs hz 16 4 (by omega), be_fld bs hz 20 4 (by omega), be_fld bs hz 24 4 (by omega)]
      rw [cut_join bs 0 4 4, cut_join bs 16 4 4, cut_join bs 16 8 4, cut_join bs 8 8 12, cut_join bs 0 8 20, cut_join bs 0 28 (24 * m)]
  refine ⟨?_, ?_⟩
  · unfold enc
    rw [if_neg (by rw [hlen]; omega), if_neg (fun hn => hn (fun b hb => (hbl b hb).1)), if_neg (by
      rintro ⟨h1, h2⟩
      have hs2 : s = false := h1
      subst hs2
      exact h2 ⟨rfl, rfl, rfl, rfl⟩), hbytes]
  · have h8 : (256 : Int) ^ 8 = 18446744073709551616 := by decide
    cases s
    · simp only [Bool.false_eq_true, if_false] at hF
      exact ⟨fld_lim bs hz 4 (by omega), (show 0 ≤ (0 : Int) ∧ (0 : Int) ≤ 18446744073709551615 by decide), (show 0 ≤ (0 : Int) ∧ (0 : Int) ≤ 4294967295 by decide), (show 0 ≤ (0 : Int) ∧ (0 : Int) ≤ 4294967295 by decide), (show 0 ≤ (0 : Int) ∧ (0 : Int) ≤ 4294967295 by decide), fun b hb => (hbl b hb).2⟩
    · simp only [if_true] at hF
      refine ⟨fld_lim bs hz 4 (by omega), ?_, fld_lim bs hz 16 (by omega), fld_lim bs hz 20 (by omega), fld_lim bs hz 24 (by omega), fun b hb => (hbl b hb).2⟩
      obtain ⟨h1, h2⟩ := fld_bd bs 8 8 hz (by omega)
      rw [h8] at h2
      show 0 ≤ fld bs 8 8 ∧ fld bs 8 8 ≤ 18446744073709551615
      omega
theorem encAll_decAll (bs : List Int) (hz : Within 0 255 bs) : ∀ (f i : Nat) (out l : List Rpt) (n : Int), i ≤ bs.length → decAll f bs i out = (l, n, 0) → ∃ l', l = out ++ l' ∧ encAll l' = (bs.drop i, 0) ∧ ∀ r ∈ l', r.ok
  | 0, i, out, l, n, hi, h => by
    simp [decAll] at h
  | f + 1, i, out, l, n, hi, h => by
    unfold decAll at h
    by_cases c : bs.length ≤ i
    · rw [if_pos c] at h
      injection h with h1 h2
      refine ⟨[], by rw [← h1]; simp, ?_, fun _ hr => by cases hr⟩
      have : bs.drop i = [] := List.drop_eq_nil_of_le c
      rw [this]; rfl
    rw [if_neg c] at h
    by_cases e : (dec (bs.drop i)).2.2 = 0
    · rw [if_pos e] at h
      have hf := dec_facts (bs.drop i) (hz.drop i)
      have hb := enc_dec (bs.drop i) (hz.drop i) e
      have h8 := hf.2.2.2.2 e
      have hl : (bs.drop i).length = bs.length - i := List.length_drop
      obtain ⟨l', e1, e2, e3⟩ := encAll_decAll bs hz f _ _ l n (by omega) h
      refine ⟨(dec (bs.drop i)).1 :: l', by rw [e1]; simp, ?_, fun r hr => ?_⟩
      · rw [encAll_cons_ok _ _ (by rw [hb.1]), e2, hb.1]
        simp only [if_true]
        rw [← List.drop_drop, List.take_append_drop]
      · rcases List.mem_cons.1 hr with rfl | hr
        · exact hb.2
        · exact e3 r hr
    · rw [if_neg e] at h
      injection h with h1 h2
      injection h2 with h2 h3
      exact absurd h3 e
/-- where an error lies -/
theorem decAll_bad (bs : List Int) (hz : Within 0 255 bs) : ∀ (f i : Nat) (out : List Rpt), i ≤ bs.length → bs.length - i < f → (decAll f bs i out).2.2 ≠ 0 → (decAll f bs i out).1 = [] ∧ 0 ≤ (decAll f bs i out).2.1 ∧ (decAll f bs i out).2.1 ≤ bs.length
  | 0, i, out, hi, hf, h => by omega
  | f + 1, i, out, hi, hf, h => by
    unfold decAll at h ⊢
    by_cases c : bs.length ≤ i
    · rw [if_pos c] at h; simp at h
    rw [if_neg c] at h ⊢
    have hd := dec_facts (bs.drop i) (hz.drop i)
    have hl : (bs.drop i).length = bs.length - i := List.length_drop
    by_cases e : (dec (bs.drop i)).2.2 = 0
    · rw [if_pos e] at h ⊢
      have h8 := hd.2.2.2.2 e
      exact decAll_bad bs hz f _ _ (by omega) (by omega) h
    · rw [if_neg e]
      refine ⟨rfl, ?_, ?_⟩
      · simp only; omega
      · simp only; omega
theorem encAll_len : ∀ (l : List Rpt), (encAll l).1.length ≤ 800 * l.length
  | [] => by simp [encAll]
  | r :: l => by
    have ih := encAll_len l
    have h1 := enc_len r
    by_cases h : (enc r).2 = 0
    · rw [encAll_cons_ok r l h]
      by_cases h2 : (encAll l).2 = 0
      · rw [if_pos h2]; simp; omega
      · rw [if_neg h2]; simp
    · rw [encAll_cons_bad r l h]; simp
theorem flat_bd (l : List Bk) : Within 0 255 (l.flatMap Bk.bytes) := by
  intro z hz
  obtain ⟨b, hb, hz⟩ := List.mem_flatMap.1 hz
  have : Within 0 255 b.bytes := by
    unfold Bk.bytes
    exact (((be_bd _ _).append (be_bd _ _)).append (be_bd _ _)).append ((((be_bd _ _).append (be_bd _ _)).append (be_bd _ _)).append (be_bd _ _))
  exact this z hz
theorem enc_bd (r : Rpt) : Within 0 255 (enc r).1 := by
  unfold enc
  split
  · exact Within.nil _ _
  split
  · exact Within.nil _ _
  split
  · exact Within.nil _ _
  · rename_i h _ _
    unfold Rpt.bytes Rpt.front
    refine Within.append (Within.append (Within.append (Within.append ?_ (be_bd _ _)) (be_bd _ _)) ?_) (flat_bd _)
    · intro z hz
      simp only [List.mem_cons, List.not_mem_nil, or_false] at hz
      rcases hz with rfl | rfl
      · omega
      · split <;> omega
    · split
      · exact (be_bd _ _).append (((be_bd _ _).append (be_bd _ _)).append (be_bd _ _))
      · exact Within.nil _ _
theorem encAll_bd : ∀ (l : List Rpt), Within 0 255 (encAll l).1
  | [] => Within.nil _ _
  | r :: l => by
    by_cases h : (enc r).2 = 0
    · rw [encAll_cons_ok r l h]
      by_cases h2 : (encAll l).2 = 0
      · rw [if_pos h2]; exact (enc_bd r).append (encAll_bd l)
      · rw [if_neg h2]; exact Within.nil _ _
    · rw [encAll_cons_bad r l h]; exact Within.nil _ _
theorem encAll_blocks : ∀ (l : List Rpt), (encAll l).2 = 0 → ∀ r ∈ l, r.blocks.length ≤ 31
  | [], _, r, hr => by cases hr
  | a :: l, h0, r, hr => by
    have h : (enc a).2 = 0 := by
      refine Classical.byContradiction fun h => ?_
      rw [encAll_cons_bad a l h] at h0
      exact h h0
    have h2 : (encAll l).2 = 0 := by
      refine Classical.byContradiction fun h3 => ?_
      rw [encAll_cons_ok a l h, if_neg h3] at h0
      exact h3 h0
    rcases List.mem_cons.1 hr with rfl | hr
    · refine Nat.not_lt.1 fun hl => ?_
      unfold enc at h
      rw [if_pos hl] at h
      simp at h
    · exact encAll_blocks l h2 r hr
end Rep
end Go.Proofs.Ythmcbmjjngolmaa
