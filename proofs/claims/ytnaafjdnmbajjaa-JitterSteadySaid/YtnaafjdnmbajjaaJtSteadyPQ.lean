/- Layer 30: a stream whose packets all take the same time; no program in sight. -/
import Derived.Test.YtnaafjdnmbajjaaJtRunQ
import Derived.Test.YtnaafjdnmbajjaaJtRRunSQ
import Derived.Test.YtnaafjdnmbajjaaJtNewQ
namespace Go.Proofs.Ytnaafjdnmbajjaa.Jb
open Go.RowKit
set_option linter.unusedVariables false
section
variable (l m seq time : Int)
/-- the i-th packet -/
def smd (i : Nat) : Md := ⟨seq + i, time + 160 * i, false, 0, []⟩
def swt (i : Nat) : Wt := ⟨5000 + l + 20 * i, smd seq time i⟩
/-- the packets from a on, n of them -/
def stq (a n : Nat) : List Wt := (List.range' a n).map (swt l seq time)
/-- how many have been played when the i-th arrives -/
def cnt (i : Nat) : Nat := ((20 * (i : Int) - l + 20) / 20).toNat
/-- the state behind the i-th packet -/
def sst (i : Nat) : Jt := ⟨l, m, 5000 + 20 * i, true, 5000 + l, time, seq + i, if cnt l i = 0 then -1 else seq + cnt l i - 1, 0, 5000 - time / 8, stq l seq time (cnt l i) (i + 1 - cnt l i), 0, 0, cnt l i⟩
theorem stq_len (a n : Nat) : (stq l seq time a n).length = n := by simp [stq]
theorem stq_due (now : Int) (c : Nat) (hc : ∀ j : Nat, 5000 + l + 20 * (j : Int) ≤ now ↔ j < c) : ∀ (n a : Nat), a ≤ c → c ≤ a + n → due now (stq l seq time a n) = stq l seq time a (c - a) ∧ left now (stq l seq time a n) = stq l seq time c (a + n - c)
  | 0, a, h1, h2 => by
    obtain rfl : c = a := by omega
    simp [stq, due, left]
  | n + 1, a, h1, h2 => by
    have e : stq l seq time a (n + 1) = swt l seq time a :: stq l seq time (a + 1) n := by simp [stq, List.range'_succ]
    rw [e]
    unfold due left
    rw [List.takeWhile_cons, List.dropWhile_cons]
    by_cases ha : a < c
    · have hle : (swt l seq time a).at_ ≤ now := (hc a).2 ha
      rw [if_pos (by simpa using hle), if_pos (by simpa using hle)]
      obtain ⟨i1, i2⟩ := stq_due now c hc n (a + 1) (by omega) (by omega)
      unfold due at i1
      unfold left at i2
      rw [i1, i2]
      refine ⟨?_, by rw [show a + 1 + n - c = a + (n + 1) - c by omega]⟩
      rw [show c - a = (c - (a + 1)) + 1 by omega]
      simp [stq, List.range'_succ]
    · have hgt : ¬(swt l seq time a).at_ ≤ now := fun h => ha ((hc a).1 h)
      rw [if_neg (by simpa using hgt), if_neg (by simpa using hgt)]
      obtain rfl : c = a := by omega
      refine ⟨by simp [stq], ?_⟩
      rw [show c + (n + 1) - c = n + 1 by omega, e]
theorem cnt_iff (i : Nat) : ∀ j : Nat, 5000 + l + 20 * (j : Int) ≤ 5000 + 20 * i ↔ j < cnt l i := by
  intro j
  unfold cnt
  omega
theorem cnt_le (i : Nat) (hl : 1 ≤ l) : cnt l i ≤ i := by unfold cnt; omega
theorem cnt_mono (i : Nat) : cnt l i ≤ cnt l (i + 1) := by unfold cnt; omega
theorem stq_max : ∀ (n a : Nat) (d : Int), maxSq d (stq l seq time a n) = if n = 0 then d else max d (seq + a + n - 1)
  | 0, a, d => rfl
  | n + 1, a, d => by
    have e : stq l seq time a (n + 1) = swt l seq time a :: stq l seq time (a + 1) n := by simp [stq, List.range'_succ]
    rw [e]
    show maxSq (max d (seq + a)) (stq l seq time (a + 1) n) = _
    rw [stq_max n (a + 1), if_neg (show ¬n + 1 = 0 by omega)]
    by_cases h : n = 0
    · subst h
      rw [if_pos rfl]
      omega
    · rw [if_neg h]
      omega
theorem while_all {α : Type} (p : α → Bool) : ∀ l : List α, (∀ x ∈ l, p x = true) → l.takeWhile p = l ∧ l.dropWhile p = []
  | [], _ => ⟨rfl, rfl⟩
  | a :: l, h => by
    obtain ⟨h1, h2⟩ := while_all p l (fun x hx => h x (List.mem_cons_of_mem _ hx))
    have ha := h a List.mem_cons_self
    rw [List.takeWhile_cons, List.dropWhile_cons, if_pos ha, if_pos ha, h1]
    exact ⟨rfl, h2⟩
theorem stq_mem (a n : Nat) (w : Wt) (h : w ∈ stq l seq time a n) : ∃ j, a ≤ j ∧ j < a + n ∧ w = swt l seq time j := by
  obtain ⟨j, hj, rfl⟩ := List.mem_map.1 h
  have := List.mem_range'_1.1 hj
  exact ⟨j, this.1, this.2, rfl⟩
theorem stq_ins (a n : Nat) (w : Wt) (hw : ∀ j, j < a + n → bef (swt l seq time j) w) : ins (stq l seq time a n) w = stq l seq time a n ++ [w] := by
  unfold ins
  have h : ∀ x ∈ stq l seq time a n, decide (bef x w) = true := fun x hx => by
    obtain ⟨j, h1, h2, rfl⟩ := stq_mem l seq time a n x hx
    simpa using hw j h2
  obtain ⟨h1, h2⟩ := while_all _ _ h
  rw [h1, h2]
theorem stq_snoc (a n : Nat) : stq l seq time a n ++ [swt l seq time (a + n)] = stq l seq time a (n + 1) := by
  simp [stq, List.range'_concat]
theorem bef_swt (i j : Nat) (h : i < j) : bef (swt l seq time i) (swt l seq time j) := by
  left
  show 5000 + l + 20 * (i : Int) < 5000 + l + 20 * (j : Int)
  omega
variable (hc : cfg l m) (hs : 0 ≤ seq ∧ seq ≤ 65535) (ht : -2147483648 ≤ time ∧ time ≤ 2147483647)
theorem smd_ok (i : Nat) (hi : i ≤ 100) (hs : 0 ≤ seq ∧ seq ≤ 65535) (ht : -2147483648 ≤ time ∧ time ≤ 2147483647) : (smd seq time i).ok := by
  refine ⟨⟨?_, ?_⟩, ⟨?_, ?_⟩, by show [].length ≤ 1500; simp⟩
  · show 0 ≤ seq + (i : Int); omega
  · show seq + (i : Int) ≤ 281474976710656; omega
  · show -281474976710656 ≤ time + 160 * (i : Int); omega
  · show time + 160 * (i : Int) ≤ 281474976710656; omega
theorem sst_ok (i : Nat) (hi : i ≤ 100) (hc : cfg l m) (hs : 0 ≤ seq ∧ seq ≤ 65535) (ht : -2147483648 ≤ time ∧ time ≤ 2147483647) : (sst l m seq time i).ok := by
  have hl := hc.1
  have hcl := cnt_le l i hl
  have hlm := hc.2.1
  have hm := hc.2.2
  refine ⟨⟨⟨?_, ?_⟩, ⟨?_, ?_⟩, ⟨?_, ?_⟩, ⟨?_, ?_⟩, ⟨?_, ?_⟩, ⟨?_, ?_⟩, by simp [sst]⟩, hc, ⟨by simp [sst], by simp [sst], ⟨?_, ?_⟩⟩, Or.inl rfl, ?_⟩
  · show 0 ≤ 5000 + 20 * (i : Int); omega
  · show 5000 + 20 * (i : Int) ≤ _; omega
  · show _ ≤ 5000 + l; omega
  · show 5000 + l ≤ _; omega
  · show _ ≤ 5000 - time / 8; omega
  · show 5000 - time / 8 ≤ _; omega
  · show _ ≤ time; omega
  · show time ≤ _; omega
  · show -1 ≤ seq + (i : Int); omega
  · show seq + (i : Int) ≤ _; omega
  · show -1 ≤ (if cnt l i = 0 then -1 else seq + cnt l i - 1)
    split <;> omega
  · show (if cnt l i = 0 then -1 else seq + cnt l i - 1) ≤ _
    split <;> omega
  · show 0 ≤ (cnt l i : Int); omega
  · show (cnt l i : Int) ≤ _; omega
  · refine (okQ_iff _ _ _).2 ⟨by show (stq l seq time _ _).length ≤ 200; rw [stq_len]; omega, fun w hw => ?_, ?_, ?_⟩
    · obtain ⟨j, h1, h2, rfl⟩ := stq_mem l seq time _ _ w hw
      have hj : ¬(5000 + l + 20 * (j : Int) ≤ 5000 + 20 * i) := fun h => by have := (cnt_iff l i j).1 h; omega
      refine ⟨smd_ok seq time j (by omega) hs ht, ?_, ?_, ?_⟩
      · show 5000 + 20 * (i : Int) < 5000 + l + 20 * (j : Int); omega
      · show 5000 + l + 20 * (j : Int) ≤ 562949953421312; omega
      · show seq + (j : Int) ≤ seq + (i : Int); omega
    · refine List.pairwise_map.2 ((List.pairwise_lt_range' ..).imp fun h => bef_swt l seq time _ _ h)
    · refine List.pairwise_map.2 ((List.pairwise_lt_range' ..).imp fun {a b} h => ?_)
      show seq + (a : Int) ≠ seq + (b : Int)
      omega
theorem steady_step (i : Nat) (hi : i ≤ 99) (hc : cfg l m) (hs : 0 ≤ seq ∧ seq ≤ 65535) (ht : -2147483648 ≤ time ∧ time ≤ 2147483647) :
    put (sst l m seq time i) (5000 + 20 * ((i + 1 : Nat) : Int)) (smd seq time (i + 1)) = (sst l m seq time (i + 1), stq l seq time (cnt l i) (cnt l (i + 1) - cnt l i), 1, 0) := by
  have hl := hc.1
  have hlm := hc.2.1
  have hm := hc.2.2
  have hc0 := cnt_le l i hl
  have hc1 := cnt_le l (i + 1) hl
  have hmo := cnt_mono l i
  have hok := sst_ok l m seq time i (by omega) hc hs ht
  have hmd := smd_ok seq time (i + 1) (by omega) hs ht
  obtain ⟨d1, d2⟩ := stq_due l seq time (5000 + 20 * ((i + 1 : Nat) : Int)) (cnt l (i + 1)) (cnt_iff l (i + 1)) (i + 1 - cnt l i) (cnt l i) hmo (by omega)
  rw [show cnt l i + (i + 1 - cnt l i) - cnt l (i + 1) = i + 1 - cnt l (i + 1) by omega] at d2
  have hchk : chk (sst l m seq time i) (5000 + 20 * ((i + 1 : Nat) : Int)) (decide (smd seq time (i + 1)).ok) = 0 := by
    unfold chk
    rw [if_neg (fun h => ?_), if_neg ?_]
    · show ¬(5000 + 20 * ((i + 1 : Nat) : Int) < 5000 + 20 * (i : Int)); omega
    · rcases h with h | h | h
      · exact h hok
      · omega
      · rw [decide_eq_true hmd] at h; cases h
  have hrun : run0 (sst l m seq time i) (5000 + 20 * ((i + 1 : Nat) : Int)) = ⟨l, m, 5000 + 20 * ((i + 1 : Nat) : Int), true, 5000 + l, time, seq + i, if cnt l (i + 1) = 0 then -1 else seq + cnt l (i + 1) - 1, 0, 5000 - time / 8, stq l seq time (cnt l (i + 1)) (i + 1 - cnt l (i + 1)), 0, 0, cnt l (i + 1)⟩ := by
    have e1 : maxSq (sst l m seq time i).done (due (5000 + 20 * ((i + 1 : Nat) : Int)) (sst l m seq time i).q) = if cnt l (i + 1) = 0 then -1 else seq + cnt l (i + 1) - 1 := by
      show maxSq (if cnt l i = 0 then -1 else seq + cnt l i - 1) (due _ (stq l seq time (cnt l i) (i + 1 - cnt l i))) = _
      rw [d1, stq_max]
      split <;> split <;> (try split) <;> omega
    have e2 : (sst l m seq time i).played + ((due (5000 + 20 * ((i + 1 : Nat) : Int)) (sst l m seq time i).q).length : Int) = cnt l (i + 1) := by
      show (cnt l i : Int) + ((due _ (stq l seq time (cnt l i) (i + 1 - cnt l i))).length : Int) = _
      rw [d1, stq_len]
      omega
    have e3 : left (5000 + 20 * ((i + 1 : Nat) : Int)) (sst l m seq time i).q = stq l seq time (cnt l (i + 1)) (i + 1 - cnt l (i + 1)) := d2
    unfold run0
    rw [e1, e2, e3]
    rfl
  unfold put
  rw [if_pos hchk, hrun]
  have e4 : due (5000 + 20 * ((i + 1 : Nat) : Int)) (sst l m seq time i).q = stq l seq time (cnt l i) (cnt l (i + 1) - cnt l i) := d1
  rw [e4]
  have hp : put0 ⟨l, m, 5000 + 20 * ((i + 1 : Nat) : Int), true, 5000 + l, time, seq + i, if cnt l (i + 1) = 0 then -1 else seq + cnt l (i + 1) - 1, 0, 5000 - time / 8, stq l seq time (cnt l (i + 1)) (i + 1 - cnt l (i + 1)), 0, 0, cnt l (i + 1)⟩ (smd seq time (i + 1)) = (sst l m seq time (i + 1), 1) := by
    unfold put0
    rw [if_neg (fun h => ?_), if_neg (fun h => ?_), if_neg (fun h => ?_)]
    · dsimp only
      have hme : meas ⟨l, m, 5000 + 20 * ((i + 1 : Nat) : Int), true, 5000 + l, time, seq + i, if cnt l (i + 1) = 0 then -1 else seq + cnt l (i + 1) - 1, 0, 5000 - time / 8, stq l seq time (cnt l (i + 1)) (i + 1 - cnt l (i + 1)), 0, 0, cnt l (i + 1)⟩ (smd seq time (i + 1)) = ⟨l, m, 5000 + 20 * ((i + 1 : Nat) : Int), true, 5000 + l, time, seq + ((i + 1 : Nat) : Int), if cnt l (i + 1) = 0 then -1 else seq + cnt l (i + 1) - 1, 0, 5000 - time / 8, stq l seq time (cnt l (i + 1)) (i + 1 - cnt l (i + 1)), 0, 0, cnt l (i + 1)⟩ := by
        have t1 : 5000 + 20 * ((i + 1 : Nat) : Int) - (time + 160 * ((i + 1 : Nat) : Int)) / 8 = 5000 - time / 8 := by omega
        have t2 : max (seq + (i : Int)) (seq + ((i + 1 : Nat) : Int)) = seq + ((i + 1 : Nat) : Int) := by omega
        unfold meas smd
        simp only [t1, t2, if_true]
        simp
      rw [hme]
      have ha : ptime ⟨l, m, 5000 + 20 * ((i + 1 : Nat) : Int), true, 5000 + l, time, seq + ((i + 1 : Nat) : Int), if cnt l (i + 1) = 0 then -1 else seq + cnt l (i + 1) - 1, 0, 5000 - time / 8, stq l seq time (cnt l (i + 1)) (i + 1 - cnt l (i + 1)), 0, 0, cnt l (i + 1)⟩ (smd seq time (i + 1)).ti = 5000 + l + 20 * ((i + 1 : Nat) : Int) := by
        show 5000 + l + (time + 160 * ((i + 1 : Nat) : Int) - time) / 8 = _
        omega
      rw [ha, if_neg (by omega), if_neg (by omega)]
      have hi2 := stq_ins l seq time (cnt l (i + 1)) (i + 1 - cnt l (i + 1)) (swt l seq time (i + 1)) (fun j hj => bef_swt l seq time j (i + 1) (by omega))
      have hsn := stq_snoc l seq time (cnt l (i + 1)) (i + 1 - cnt l (i + 1))
      rw [show cnt l (i + 1) + (i + 1 - cnt l (i + 1)) = i + 1 by omega, show i + 1 - cnt l (i + 1) + 1 = i + 1 + 1 - cnt l (i + 1) by omega] at hsn
      have hw : (⟨5000 + l + 20 * ((i + 1 : Nat) : Int), smd seq time (i + 1)⟩ : Wt) = swt l seq time (i + 1) := rfl
      rw [hw, hi2, hsn]
      rfl
    · rw [stq_len] at h; omega
    · obtain ⟨_, h⟩ := h
      have h' : seq + ((i + 1 : Nat) : Int) ≤ (if cnt l (i + 1) = 0 then -1 else seq + cnt l (i + 1) - 1) := h
      split at h' <;> omega
    · obtain ⟨w, hw, he⟩ := List.any_eq_true.1 h
      obtain ⟨j, h1, h2, rfl⟩ := stq_mem l seq time _ _ w hw
      have he' : seq + (j : Int) = seq + ((i + 1 : Nat) : Int) := by simpa [swt, smd] using he
      omega
  rw [hp]
theorem steady_first (hc : cfg l m) (hs : 0 ≤ seq ∧ seq ≤ 65535) (ht : -2147483648 ≤ time ∧ time ≤ 2147483647) : put (new l m).1 5000 (smd seq time 0) = (sst l m seq time 0, [], 1, 0) := by
  have hl := hc.1
  have hlm := hc.2.1
  have hm := hc.2.2
  have hok := new_ok l m hc
  have hmd := smd_ok seq time 0 (by omega) hs ht
  have hn : (new l m).1 = ⟨l, m, 0, false, 0, 0, -1, -1, 0, 0, [], 0, 0, 0⟩ := by unfold new; rw [if_pos hc]
  have hchk : chk (new l m).1 5000 (decide (smd seq time 0).ok) = 0 := by
    unfold chk
    rw [if_neg (fun h => ?_), if_neg ?_]
    · rw [hn]; show ¬(5000 : Int) < 0; omega
    · rcases h with h | h | h
      · exact h hok
      · omega
      · rw [decide_eq_true hmd] at h; cases h
  have hz : cnt l 0 = 0 := by unfold cnt; omega
  unfold put
  rw [if_pos hchk, hn]
  have hp : put0 (run0 ⟨l, m, 0, false, 0, 0, -1, -1, 0, 0, [], 0, 0, 0⟩ 5000) (smd seq time 0) = (sst l m seq time 0, 1) := by
    unfold put0
    rw [if_neg (by simp [run0, left]), if_neg (by simp [run0]), if_neg (by simp [run0, left])]
    dsimp only
    have hme : meas (run0 ⟨l, m, 0, false, 0, 0, -1, -1, 0, 0, [], 0, 0, 0⟩ 5000) (smd seq time 0) = ⟨l, m, 5000, true, 5000 + l, time, seq, -1, 0, 5000 - time / 8, [], 0, 0, 0⟩ := by
      have t2 : max (-1) (seq + ((0 : Nat) : Int)) = seq := by omega
      have t3 : min l m = l := by omega
      have t4 : time + 160 * ((0 : Nat) : Int) = time := by omega
      unfold meas smd run0 lastAt left due maxSq
      simp only [t2, t4]
      simp [t3]
    rw [hme]
    have ha : ptime ⟨l, m, 5000, true, 5000 + l, time, seq, -1, 0, 5000 - time / 8, [], 0, 0, 0⟩ (smd seq time 0).ti = 5000 + l := by
      show 5000 + l + (time + 160 * ((0 : Nat) : Int) - time) / 8 = _
      omega
    rw [ha, if_neg (by show ¬5000 + l ≤ 5000; omega), if_neg (by show ¬5000 + 120000 < 5000 + l; omega)]
    unfold sst
    rw [hz]
    simp [ins, stq, swt]
  rw [hp]
  rfl
end
end Go.Proofs.Ytnaafjdnmbajjaa.Jb
/- Layer 30, JitterSteady: the states of a steady stream, with the state ahead of its first packet; its end. -/
namespace Go.Proofs.Ytnaafjdnmbajjaa.Jb
open Go.RowKit
set_option linter.unusedVariables false
def stS (l m q t : Int) (i : Nat) : Jt := if i = 0 then (new l m).1 else sst l m q t (i - 1)
def mnS (l : Int) (i : Nat) : Nat := cnt l (i - 1)
theorem cnt_zero (l : Int) (h : 1 ≤ l) : cnt l 0 = 0 := by unfold cnt; omega
theorem stS_step {l m q t : Int} (hc : cfg l m) (hs : 0 ≤ q ∧ q ≤ 65535) (ht : -2147483648 ≤ t ∧ t ≤ 2147483647) (i : Nat) (hi : i ≤ 60) :
    put (stS l m q t i) (5000 + 20 * (i : Int)) ⟨q + i, t + 160 * (i : Int), false, 0, []⟩ = (stS l m q t (i + 1), stq l q t (mnS l i) (mnS l (i + 1) - mnS l i), 1, 0) := by
  rcases i with _ | i
  · have h := steady_first l m q t hc hs ht
    have h0 := cnt_zero l hc.1
    unfold stS mnS
    simp only [if_true, Nat.zero_add, Nat.sub_self, if_neg (by omega : ¬(0 + 1 : Nat) = 0)]
    simp only [smd] at h
    simpa [stq] using h
  · have h := steady_step l m q t i (by omega) hc hs ht
    unfold stS mnS
    simp only [if_neg (by omega : ¬(i + 1 : Nat) = 0), if_neg (by omega : ¬(i + 1 + 1 : Nat) = 0), Nat.add_sub_cancel]
    exact h
theorem mnS_le {l : Int} (hl : 1 ≤ l) (i : Nat) : mnS l i ≤ mnS l (i + 1) ∧ mnS l (i + 1) ≤ i ∧ mnS l i ≤ i := by
  unfold mnS
  have h1 := cnt_le l i hl
  rcases i with _ | i
  · simp [cnt_zero l hl]
  · have h2 := cnt_mono l i
    have h3 := cnt_le l i hl
    simp only [Nat.add_sub_cancel]
    omega
theorem stS_q {l m q t : Int} (hc : cfg l m) (i : Nat) : (stS l m q t i).q.length ≤ i ∧ ∀ x ∈ (stS l m q t i).q, ∃ j : Nat, x = swt l q t j ∧ j < i := by
  rcases i with _ | i
  · have hn : (new l m).1.q = [] := by unfold new; rw [if_pos hc]
    unfold stS
    rw [if_pos rfl, hn]
    exact ⟨Nat.le_refl _, fun x hx => by cases hx⟩
  · unfold stS
    rw [if_neg (by omega)]
    show (stq l q t (cnt l i) (i + 1 - cnt l i)).length ≤ _ ∧ ∀ x ∈ stq l q t (cnt l i) (i + 1 - cnt l i), _
    have hcl := cnt_le l i hc.1
    refine ⟨by rw [stq_len]; omega, fun x hx => ?_⟩
    obtain ⟨j, h1, h2, e⟩ := stq_mem l q t _ _ x hx
    exact ⟨j, e, by omega⟩
theorem stq_get (l q t : Int) (a n k : Nat) (hk : k < n) : (stq l q t a n)[k]? = some (swt l q t (a + k)) := by
  unfold stq
  rw [List.getElem?_map, List.getElem?_range' hk]
  simp
theorem stS_end {l m q t : Int} (hc : cfg l m) (hs : 0 ≤ q ∧ q ≤ 65535) (ht : -2147483648 ≤ t ∧ t ≤ 2147483647) (r : Nat) (hr : r ≤ 59) (now : Int) (hn : now = 5000 + 20 * (1 + (r : Int)) + 2000) :
    ∃ (s' : Jt) (lp : List Wt), run (stS l m q t (r + 1)) now = (s', lp, 0) ∧ mnS l (r + 1) + lp.length = r + 1 ∧ s'.late = 0 ∧ s'.twice = 0 ∧ s'.played = ((r + 1 : Nat) : Int) ∧ s'.spread = 0 := by
  have e : stS l m q t (r + 1) = sst l m q t r := by unfold stS; rw [if_neg (by omega), Nat.add_sub_cancel]
  have hok := sst_ok l m q t r (by omega) hc hs ht
  have hcl := cnt_le l r hc.1
  have hd : due now (stq l q t (cnt l r) (r + 1 - cnt l r)) = stq l q t (cnt l r) (r + 1 - cnt l r) := (while_all _ _ (fun x hx => by
    obtain ⟨j, h1, h2, e⟩ := stq_mem l q t _ _ x hx
    have := hc.2.2
    have := hc.2.1
    rw [e, decide_eq_true_iff]
    show 5000 + l + 20 * (j : Int) ≤ now
    omega)).1
  have hn' : (sst l m q t r).now ≤ now := by show 5000 + 20 * (r : Int) ≤ now; omega
  refine ⟨run0 (sst l m q t r) now, stq l q t (cnt l r) (r + 1 - cnt l r), ?_, ?_, rfl, rfl, ?_, rfl⟩
  · rw [e]
    unfold run
    rw [chk_run hok hn' (by omega), if_pos rfl]
    show (_, due now (stq l q t (cnt l r) (r + 1 - cnt l r)), _) = _
    rw [hd]
  · unfold mnS
    rw [stq_len, Nat.add_sub_cancel]
    omega
  · show ((cnt l r : Nat) : Int) + ((due now (stq l q t (cnt l r) (r + 1 - cnt l r))).length : Int) = _
    rw [hd, stq_len]
    omega
end Go.Proofs.Ytnaafjdnmbajjaa.Jb
/- Layer 30: JitterSteady: a region. -/
namespace Go.Proofs.Ytnaafjdnmbajjaa
open Go.RowKit
set_option linter.unusedVariables false
set_option linter.unusedSimpArgs false
attribute [local go_sem ↓] run_min_plain run_max_plain
attribute [local go_sem] setCell_drewN alloc_drewN
noncomputable def str10_code : Code := ((Try.f5.body.bind (findRegJ 10)).getD .skip)
set_option maxRecDepth 100000 in
set_option maxHeartbeats 12800000 in
theorem str10_wp {s0 s3 s4 s5 s6 s7 s8 s10 s11 s13 s15 s16 s17 s18 s19 s20 s21 s22 s23 s24 s25 s26 s27 s28 s29 s30 s31 s32 s33 s34 s35 s36 s37 s38 s39 s40 s41 s42 s43 s44 s45 s46 s47 s48 s49 s50 s51 s52 s53 s54 s55 s56 s57 s58 s59 s60 s61 s62 s63 s64 s65 s66 s67 s68 s69 s70 s71 s72 s73 s74 s75 s76 s77 s78 s79 s80 s81 s82 s83 s84 s85 s86 s87 s88 s89 s90 s91 s92 s93 s94 s95 s96 s97 s98 s99 s100 s101 s102 s103 s104 s105 s106 s107 s108 s109 s110 s111 s112 s113 s114 s115 s116 s117 s118 s119 s120 s121 s122 s123 s124 s125 s126 s127 s128 s129 s130 s131 s132 s133 s134 s135 s136 s137 s138 s139 s140 s141 s142 s143 s144 s145 : Value} {Q : Exit → Act → World → Prop} (q t : Int) (i : Nat) (hi : i ≤ 100) (q0 : 0 ≤ q) (q1 : q ≤ 65535) (t0 : -2147483648 ≤ t) (t1 : t ≤ 2147483647) (w W : World) (g c : Nat) (s s' : Jb.Jt) (A : Option Addr) (l : List TW) (lp : List Jb.Wt) (v er : Int) (SB : SBox W g s A c l) (UW : Bel w W) (hgw : w.heap.size ≤ g) (hl : l.length ≤ 1000) (hks : ∀ x ∈ s.q, I64 x.m.sq) (hput : Jb.put s (5000 + 20 * (i : Int)) ⟨q + (i : Int), t + 160 * (i : Int), false, 0, []⟩ = (s', lp, v, er))
    (h : ∀ (wx : World) (g2 : Nat) (A3 : Option Addr) (c3 : Nat) (l3 : List TW) (A4 : Option Addr) (c4 : Nat) (l4 : List TW) (u39 u40 u41 u42 u43 u44 u45 u46 u47 u48 u49 u50 u51 u52 u53 u54 u55 u56 u57 u58 u59 : Value), l3.map TW.w = lp → Hid (Wts wx wx.heap.size A3 l3) → W.heap.size ≤ g2 → Hid (Below W.heap.size W wx) → Hid (SBox wx g2 s' A4 c4 l4) → Hid (Bel w wx) → Q .normal ⟨#[s0, .int .u16 q, .int .i32 t, s3, s4, s5, s6, s7, s8, .pointer (some ⟨g, 0, none⟩), s10, s11, .int .i64 5000, s13, .int .i64 (i : Int), .pointer (some ⟨g2, 0, none⟩), .slice A3 l3.length c3, .int .u8 v, .int .u8 er, s19, s20, s21, s22, s23, s24, s25, s26, s27, s28, s29, s30, s31, s32, s33, s34, s35, s36, s37, s38, u39, u40, u41, u42, u43, u44, u45, u46, u47, u48, u49, u50, u51, u52, u53, u54, u55, u56, u57, u58, u59, s60, s61, s62, s63, s64, s65, s66, s67, s68, s69, s70, s71, s72, s73, s74, s75, s76, s77, s78, s79, s80, s81, s82, s83, s84, s85, s86, s87, s88, s89, s90, s91, s92, s93, s94, s95, s96, s97, s98, s99, s100, s101, s102, s103, s104, s105, s106, s107, s108, s109, s110, s111, s112, s113, s114, s115, s116, s117, s118, s119, s120, s121, s122, s123, s124, s125, s126, s127, s128, s129, s130, s131, s132, s133, s134, s135, s136, s137, s138, s139, s140, s141, s142, s143, s144, s145], []⟩ wx) : Code.wp Try.prog str10_code Q ⟨#[s0, .int .u16 q, .int .i32 t, s3, s4, s5, s6, s7, s8, .pointer (some ⟨g, 0, none⟩), s10, s11, .int .i64 5000, s13, .int .i64 (i : Int), s15, s16, s17, s18, s19, s20, s21, s22, s23, s24, s25, s26, s27, s28, s29, s30, s31, s32, s33, s34, s35, s36, s37, s38, s39, s40, s41, s42, s43, s44, s45, s46, s47, s48, s49, s50, s51, s52, s53, s54, s55, s56, s57, s58, s59, s60, s61, s62, s63, s64, s65, s66, s67, s68, s69, s70, s71, s72, s73, s74, s75, s76, s77, s78, s79, s80, s81, s82, s83, s84, s85, s86, s87, s88, s89, s90, s91, s92, s93, s94, s95, s96, s97, s98, s99, s100, s101, s102, s103, s104, s105, s106, s107, s108, s109, s110, s111, s112, s113, s114, s115, s116, s117, s118, s119, s120, s121, s122, s123, s124, s125, s126, s127, s128, s129, s130, s131, s132, s133, s134, s135, s136, s137, s138, s139, s140, s141, s142, s143, s144, s145], []⟩ W := by
  have b0 := (SB.blk).at 0 _ rfl
  have b1 := (SB.blk).at 1 _ rfl
  have b2 := (SB.blk).at 2 _ rfl
  have b3 := (SB.blk).at 3 _ rfl
  have b4 := (SB.blk).at 4 _ rfl
  have b5 := (SB.blk).at 5 _ rfl
  have b6 := (SB.blk).at 6 _ rfl
  have b7 := (SB.blk).at 7 _ rfl
  have b8 := (SB.blk).at 8 _ rfl
  have b9 := (SB.blk).at 9 _ rfl
  have b10 := (SB.blk).at 10 _ rfl
  have b11 := (SB.blk).at 11 _ rfl
  have b12 := (SB.blk).at 12 _ rfl
  have b13 := (SB.blk).at 13 _ rfl
  have w1 : IntKind.i64.wrap (20 * (i : Int)) = 20 * (i : Int) := i64_small _ (by omega) (by omega)
  have w2 : IntKind.i64.wrap (5000 + 20 * (i : Int)) = 5000 + 20 * (i : Int) := i64_small _ (by omega) (by omega)
  have w3 : IntKind.i64.wrap q = q := i64_small _ (by omega) (by omega)
  have w4 : IntKind.i64.wrap (q + (i : Int)) = q + (i : Int) := i64_small _ (by omega) (by omega)
  have w5 : IntKind.i64.wrap t = t := i64_small _ (by omega) (by omega)
  have w6 : IntKind.i64.wrap (160 * (i : Int)) = 160 * (i : Int) := i64_small _ (by omega) (by omega)
  have w7 : IntKind.i64.wrap (t + 160 * (i : Int)) = t + 160 * (i : Int) := i64_small _ (by omega) (by omega)
  have hgl := SB.blk.lt
  conv => arg 2; whnf
  refine wp_region_noPanic ?_
  go_region_law (first | (go_simp; go_at_call 20; refine (media_any (q + (i : Int)) (t + 160 * (i : Int)) _).mono ?_; rintro e wm ⟨rfl, hbm⟩; (first | have SBM := SB.drew.later hbm | have SBM := (SBox.push SB.drew _).later hbm); (first | have UM := UW.drew.later hbm | have UM := (Bel.push UW.drew _).later hbm); (first | have HUM := (Bel.refl W).drew.later hbm | have HUM := (Bel.push (Bel.refl W).drew _).later hbm); (try have ZSM : SBox wm W.heap.size Jb.Jt.none none 0 [] := (SBox.new (W := W.drew) (s := Jb.Jt.none) (A := none) (c := 0) (l := []) rfl (Nat.le_refl _) (by unfold maxLen; omega) Wts.empty).later hbm); have m0 := SBM.blk.at 0 _ rfl; have m1 := SBM.blk.at 1 _ rfl; have m2 := SBM.blk.at 2 _ rfl; have m3 := SBM.blk.at 3 _ rfl; have m4 := SBM.blk.at 4 _ rfl; have m5 := SBM.blk.at 5 _ rfl; have m6 := SBM.blk.at 6 _ rfl; have m7 := SBM.blk.at 7 _ rfl; have m8 := SBM.blk.at 8 _ rfl; have m9 := SBM.blk.at 9 _ rfl; have m10 := SBM.blk.at 10 _ rfl; have m11 := SBM.blk.at 11 _ rfl; have m12 := SBM.blk.at 12 _ rfl; have m13 := SBM.blk.at 13 _ rfl; have hgm := SBM.blk.lt; have hzm := HUM.size) | (go_simp; go_at_call 11; refine (jput_st s A l l.length c (5000 + 20 * (i : Int)) ⟨q + (i : Int), t + 160 * (i : Int), false, 0, []⟩ none 0 0 _ SB.q rfl (by omega) SB.cap SB.cm (by first | exact SBM.wts | exact (SBM.push _).wts) (keys_small SB.q hks) rfl (by omega) IntsAt.nil).mono ?_; rintro e wp hjp; obtain ⟨A3, c3, l3, A4, c4, l4, rfl, h1, h2, h3, h4, h5, h6, hbp⟩ := put_e hput hjp; (first | have SBP := SBM.later hbp | have SBP := (SBM.push _).later hbp); (first | have UP := UM.later hbp | have UP := (Bel.push UM _).later hbp); (first | have HUP := HUM.later hbp | have HUP := (Bel.push HUM _).later hbp); (try have ZSP := ZSM.later hbp); (try have ZSP : SBox wp wm.heap.size Jb.Jt.none none 0 [] := (SBox.new (W := wm) (s := Jb.Jt.none) (A := none) (c := 0) (l := []) rfl (Nat.le_refl _) (by unfold maxLen; omega) Wts.empty).later hbp); (have p0 := SBP.blk.at 0 _ rfl; have p1 := SBP.blk.at 1 _ rfl; have p2 := SBP.blk.at 2 _ rfl; have p3 := SBP.blk.at 3 _ rfl; have p4 := SBP.blk.at 4 _ rfl; have p5 := SBP.blk.at 5 _ rfl; have p6 := SBP.blk.at 6 _ rfl; have p7 := SBP.blk.at 7 _ rfl; have p8 := SBP.blk.at 8 _ rfl; have p9 := SBP.blk.at 9 _ rfl; have p10 := SBP.blk.at 10 _ rfl; have p11 := SBP.blk.at 11 _ rfl; have p12 := SBP.blk.at 12 _ rfl; have p13 := SBP.blk.at 13 _ rfl; have pfz := SBP.blk.frozen); (try (have z0 := ZSP.blk.at 0 _ rfl; have z1 := ZSP.blk.at 1 _ rfl; have z2 := ZSP.blk.at 2 _ rfl; have z3 := ZSP.blk.at 3 _ rfl; have z4 := ZSP.blk.at 4 _ rfl; have z5 := ZSP.blk.at 5 _ rfl; have z6 := ZSP.blk.at 6 _ rfl; have z7 := ZSP.blk.at 7 _ rfl; have z8 := ZSP.blk.at 8 _ rfl; have z9 := ZSP.blk.at 9 _ rfl; have z10 := ZSP.blk.at 10 _ rfl; have z11 := ZSP.blk.at 11 _ rfl; have z12 := ZSP.blk.at 12 _ rfl; have z13 := ZSP.blk.at 13 _ rfl; have zfz := ZSP.blk.frozen)); simp only [JL]))
  all_goals
    refine NoPanic.normal ?_
    simp only [List.getElem_toArray, List.getElem_cons_zero, List.getElem_cons_succ, Act.put, List.setIfInBounds_toArray, List.set_cons_zero, List.set_cons_succ]
    first
      | (have hsx := SBox.new (s := s') h2 h5 h6 h4
         have hux : Bel w _ := Bel.push UP (.cells (JL s' A4 l4.length c4).toArray 26)
         have hbx : Below W.heap.size W _ := Bel.push HUP (.cells (JL s' A4 l4.length c4).toArray 26)
         have hwx := h3.push (.cells (JL s' A4 l4.length c4).toArray 26)
         have hgs : W.heap.size ≤ wp.heap.size := HUP.size
         simp only [JL] at hsx hux hbx hwx
         with_reducible exact h _ wp.heap.size _ _ _ _ _ _ _ _ _ _ _ _ _ _ _ _ _ _ _ _ _ _ _ _ _ _ _ h1 (Lib.hid hwx) hgs (Lib.hid hbx) (Lib.hid hsx) (Lib.hid hux))
      | (have hsx : SBox _ (wm.heap.size) s' A4 c4 l4 := ZSP.store (s' := s') h2 h5 h6 h4
         have hgs : W.heap.size ≤ wm.heap.size := by omega
         have hux : Bel w _ := below_setRow (g := wm.heap.size) (by omega) (JL s' A4 l4.length c4) wp 0 UP
         have hbx : Below W.heap.size W _ := below_setRow (g := wm.heap.size) hgs (JL s' A4 l4.length c4) wp 0 HUP
         have hwx := wts_size (JL s' A4 l4.length c4) (h3.setRowNe ZSP.blk (JL_no _ _ _ _) (JL s' A4 l4.length c4))
         simp only [JL, setRow, Nat.zero_add, Nat.reduceAdd] at hsx hux hbx hwx
         with_reducible exact h _ wm.heap.size _ _ _ _ _ _ _ _ _ _ _ _ _ _ _ _ _ _ _ _ _ _ _ _ _ _ _ h1 (Lib.hid hwx) hgs (Lib.hid hbx) (Lib.hid hsx) (Lib.hid hux))
      | (have hsx : SBox _ (W.heap.size) s' A4 c4 l4 := ZSP.store (s' := s') h2 h5 h6 h4
         have hgs : W.heap.size ≤ W.heap.size := by omega
         have hux : Bel w _ := below_setRow (g := W.heap.size) (by omega) (JL s' A4 l4.length c4) wp 0 UP
         have hbx : Below W.heap.size W _ := below_setRow (g := W.heap.size) hgs (JL s' A4 l4.length c4) wp 0 HUP
         have hwx := wts_size (JL s' A4 l4.length c4) (h3.setRowNe ZSP.blk (JL_no _ _ _ _) (JL s' A4 l4.length c4))
         simp only [JL, setRow, Nat.zero_add, Nat.reduceAdd] at hsx hux hbx hwx
         with_reducible exact h _ W.heap.size _ _ _ _ _ _ _ _ _ _ _ _ _ _ _ _ _ _ _ _ _ _ _ _ _ _ _ h1 (Lib.hid hwx) hgs (Lib.hid hbx) (Lib.hid hsx) (Lib.hid hux))
end Go.Proofs.Ytnaafjdnmbajjaa
