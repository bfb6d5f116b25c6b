/- Layer 30: what is taken waits till its time comes; no program in sight. -/
import Derived.Test.YtnaafjdnmbajjaaJtMapQ
import Derived.Test.YtnaafjdnmbajjaaJtPutAllQ
import Derived.Test.YtnaafjdnmbajjaaJtSameQ
import Derived.Test.YtnaafjdnmbajjaaJtTypes2
import Derived.Test.YtnaafjdnmbajjaaJtRValidQ
import Derived.Test.YtnaafjdnmbajjaaJtPutSQ
namespace Go.Proofs.Ytnaafjdnmbajjaa.Jb
open Go.RowKit
set_option linter.unusedVariables false
theorem play_eq (s : Jt) (t : Int) (h : s.ok) (h1 : -281474976710656 ≤ t) (h2 : t ≤ 281474976710656) : play s t = ptime s t := by
  unfold play
  rw [if_pos ⟨h, h1, h2⟩]
/-- what a call of Put answers, as the law asks for it -/
theorem put0_cases (s : Jt) (m : Md) (h : s.ok) (hm : m.ok) (hl : s.late < 281474976710656) (ht : s.twice < 281474976710656) :
    ((put0 s m).2 = 1 ∧ s.now < play (put0 s m).1 m.ti ∧ play (put0 s m).1 m.ti ≤ s.now + 120000 ∧ (put0 s m).1.q = ins s.q ⟨play (put0 s m).1 m.ti, m⟩ ∧ (s.q.any fun w => w.m.sq == m.sq) = false) ∨
    ((put0 s m).2 ≠ 1 ∧ (put0 s m).2 ≠ 0 ∧ (put0 s m).1.q = s.q ∧ (s.now < play (put0 s m).1 m.ti → play (put0 s m).1 m.ti ≤ s.now + 120000 → (put0 s m).1.done < m.sq → (s.q.any fun w => w.m.sq == m.sq) = false → ¬s.q.length < 200)) := by
  have hok := put0_ok s m h hm hl ht
  have hp := play_eq _ m.ti hok hm.2.1.1 hm.2.1.2
  rw [hp]
  clear hp hok
  by_cases h1 : (s.q.any fun w => w.m.sq == m.sq) = true
  · right
    have e : put0 s m = ({ s with twice := s.twice + 1 }, 3) := by unfold put0; rw [if_pos h1]
    rw [e]
    exact ⟨by simp, by simp, rfl, fun _ _ _ h2 => by rw [h1] at h2; cases h2⟩
  by_cases h2 : s.on = true ∧ m.sq ≤ s.done
  · right
    have e : put0 s m = ({ s with late := s.late + 1 }, 2) := by unfold put0; rw [if_neg h1, if_pos h2]
    rw [e]
    exact ⟨by simp, by simp, rfl, fun _ _ h3 => by have h4 : s.done < m.sq := h3; omega⟩
  by_cases h3 : 200 ≤ s.q.length
  · right
    have e : put0 s m = (s, 4) := by unfold put0; rw [if_neg h1, if_neg h2, if_pos h3]
    rw [e]
    exact ⟨by simp, by simp, rfl, fun _ _ _ _ => by show ¬s.q.length < 200; omega⟩
  by_cases h4 : ptime (meas s m) m.ti ≤ s.now
  · right
    have e : put0 s m = ({ (meas s m) with late := (meas s m).late + 1 }, 2) := by unfold put0; rw [if_neg h1, if_neg h2, if_neg h3]; dsimp only; rw [if_pos h4]
    rw [e]
    exact ⟨by simp, by simp, rfl, fun h5 => by have h6 : s.now < ptime (meas s m) m.ti := h5; omega⟩
  by_cases h5 : s.now + 120000 < ptime (meas s m) m.ti
  · right
    have e : put0 s m = (meas s m, 5) := by unfold put0; rw [if_neg h1, if_neg h2, if_neg h3]; dsimp only; rw [if_neg h4, if_pos h5]
    rw [e]
    exact ⟨by simp, by simp, rfl, fun _ h6 => by have h7 : ptime (meas s m) m.ti ≤ s.now + 120000 := h6; omega⟩
  · left
    have e : put0 s m = ({ (meas s m) with q := ins (meas s m).q ⟨ptime (meas s m) m.ti, m⟩ }, 1) := by unfold put0; rw [if_neg h1, if_neg h2, if_neg h3]; dsimp only; rw [if_neg h4, if_neg h5]
    rw [e]
    exact ⟨rfl, by show s.now < ptime (meas s m) m.ti; omega, by show ptime (meas s m) m.ti ≤ s.now + 120000; omega, rfl, by simpa using h1⟩
/-- the law's own insertion: ahead of the first that stands behind -/
def ins' (q : List Wt) (w : Wt) : List Wt := q.takeWhile (fun x => !decide (bef w x)) ++ w :: q.dropWhile (fun x => !decide (bef w x))
theorem while_congr {α : Type} (p r : α → Bool) : ∀ l : List α, (∀ x ∈ l, p x = r x) → l.takeWhile p = l.takeWhile r ∧ l.dropWhile p = l.dropWhile r
  | [], _ => ⟨rfl, rfl⟩
  | a :: l, h => by
    obtain ⟨h1, h2⟩ := while_congr p r l (fun x hx => h x (List.mem_cons_of_mem _ hx))
    have ha := h a List.mem_cons_self
    rw [List.takeWhile_cons, List.takeWhile_cons, List.dropWhile_cons, List.dropWhile_cons, ha, h1, h2]
    exact ⟨rfl, rfl⟩
theorem ins_ins' (q : List Wt) (w : Wt) (h : (q.any fun x => x.m.sq == w.m.sq) = false) : ins q w = ins' q w := by
  have hd : ∀ x ∈ q, decide (bef x w) = !decide (bef w x) := fun x hx => by
    have hne : x.m.sq ≠ w.m.sq := fun e => by
      have : (q.any fun x => x.m.sq == w.m.sq) = true := List.any_eq_true.2 ⟨x, hx, by simpa using e⟩
      rw [h] at this; cases this
    rw [Bool.eq_iff_iff]
    simp only [decide_eq_true_eq, Bool.not_eq_true', decide_eq_false_iff_not]
    unfold bef
    omega
  obtain ⟨h1, h2⟩ := while_congr _ _ q hd
  unfold ins ins'
  rw [h1, h2]
/-- all that waits is due within two minutes -/
def Near (now : Int) (q : List Wt) : Prop := ∀ w ∈ q, w.at_ ≤ now + 120000
theorem near_left {now now' : Int} {q : List Wt} (h : Near now q) (hn : now ≤ now') : Near now' (left now' q) := fun w hw => by
  have := h w ((left_sub now' q).subset hw)
  omega
theorem near_ins {now : Int} {q : List Wt} {w : Wt} (h : Near now q) (hw : w.at_ ≤ now + 120000) : Near now (ins q w) := fun x hx => by
  rcases List.mem_cons.1 ((ins_perm q w).subset hx) with rfl | hx
  · exact hw
  · exact h x hx
theorem near_empty {now : Int} {q : List Wt} (h : Near now q) (hq : q.Pairwise bef) : left (now + 1000000) q = [] := by
  apply List.eq_nil_iff_forall_not_mem.2
  intro w hw
  have h1 := left_gt (now + 1000000) q hq w hw
  have h2 := h w ((left_sub _ q).subset hw)
  omega
end Go.Proofs.Ytnaafjdnmbajjaa.Jb
namespace Go.Proofs.Ytnaafjdnmbajjaa.Jb
open Go.RowKit
set_option linter.unusedVariables false
theorem put0_cnt (s : Jt) (m : Md) : (put0 s m).1.late ≤ s.late + 1 ∧ (put0 s m).1.twice ≤ s.twice + 1 ∧ (put0 s m).1.played = s.played ∧ (put0 s m).1.now = s.now ∧ (put0 s m).1.least = s.least ∧ (put0 s m).1.most = s.most := by
  unfold put0
  split
  · exact ⟨by show s.late ≤ _; omega, Int.le_refl _, rfl, rfl, rfl, rfl⟩
  split
  · exact ⟨Int.le_refl _, by show s.twice ≤ _; omega, rfl, rfl, rfl, rfl⟩
  split
  · exact ⟨by show s.late ≤ _; omega, by show s.twice ≤ _; omega, rfl, rfl, rfl, rfl⟩
  dsimp only
  split
  · exact ⟨Int.le_refl _, by show s.twice ≤ _; omega, rfl, rfl, rfl, rfl⟩
  split
  · exact ⟨by show s.late ≤ _; omega, by show s.twice ≤ _; omega, rfl, rfl, rfl, rfl⟩
  · exact ⟨by show s.late ≤ _; omega, by show s.twice ≤ _; omega, rfl, rfl, rfl, rfl⟩
/-- a state of a stream that is not long: it is valid, and its counts are small -/
structure Small (n : Int) (s : Jt) : Prop where
  ok : s.ok
  late : s.late ≤ n
  twice : s.twice ≤ n
  played : s.played ≤ 200 * n
theorem small_new (l m : Int) (h : cfg l m) : Small 0 (new l m).1 := by
  refine ⟨new_ok l m h, ?_, ?_, ?_⟩ <;> (unfold new; rw [if_pos h]; exact Int.le_refl _)
theorem small_run {n : Int} {s : Jt} (h : Small n s) (hn : n ≤ 1000) (now : Int) (h1 : s.now ≤ now) (h2 : now ≤ 281474976710656) : Small (n + 1) (run0 s now) := by
  have hl : (due now s.q).length ≤ s.q.length := (due_sub now s.q).length_le
  have h200 : s.q.length ≤ 200 := h.ok.2.2.2.2.1
  have hp := h.played
  have h0 := h.late
  have h3 := h.twice
  exact ⟨run0_ok s now h.ok h1 h2 (by omega), by show s.late ≤ _; omega, by show s.twice ≤ _; omega, by show s.played + ((due now s.q).length : Int) ≤ _; omega⟩
theorem run0_keeps (s : Jt) (now : Int) : (run0 s now).late = s.late ∧ (run0 s now).twice = s.twice ∧ (run0 s now).now = now ∧ (run0 s now).q = left now s.q ∧ (run0 s now).least = s.least ∧ (run0 s now).most = s.most := ⟨rfl, rfl, rfl, rfl, rfl, rfl⟩
theorem small_put {n : Int} {s : Jt} (h : Small n s) (hn : n ≤ 1000) (now : Int) (h1 : s.now ≤ now) (h2 : now ≤ 281474976710656) (m : Md) (hm : m.ok) : Small (n + 1) (put0 (run0 s now) m).1 := by
  have hr := small_run h hn now h1 h2
  obtain ⟨c1, c2, c3, _⟩ := put0_cnt (run0 s now) m
  have e1 : (run0 s now).late = s.late := rfl
  have e2 : (run0 s now).twice = s.twice := rfl
  have h3 := h.late
  have h4 := h.twice
  have h5 := hr.played
  exact ⟨put0_ok _ m hr.ok hm (by omega) (by omega), by omega, by omega, by omega⟩
theorem chk_run {s : Jt} {now : Int} (h : s.ok) (h1 : s.now ≤ now) (h2 : now ≤ 281474976710656) : chk s now true = 0 := by
  unfold chk
  rw [if_neg (fun hc => ?_), if_neg (by omega)]
  rcases hc with hc | hc | hc
  · exact hc h
  · omega
  · cases hc
theorem chk_put {s : Jt} {now : Int} {m : Md} (h : s.ok) (h1 : s.now ≤ now) (h2 : now ≤ 281474976710656) (hm : m.ok) : chk s now (decide m.ok) = 0 := by
  rw [decide_eq_true hm]
  exact chk_run h h1 h2
theorem chk_bad {s : Jt} {now : Int} {m : Md} (hm : ¬m.ok) : chk s now (decide m.ok) = 2 := by
  unfold chk
  rw [if_pos (Or.inr (Or.inr (decide_eq_false hm)))]
end Go.Proofs.Ytnaafjdnmbajjaa.Jb
/- Layer 30: how long the lists are that Put and Run leave; what they leave, in numbers. -/
namespace Go.Proofs.Ytnaafjdnmbajjaa
open Go.RowKit
set_option linter.unusedVariables false
theorem dl_len (now : Int) (q : List Jb.Wt) : (Jb.due now q).length ≤ q.length ∧ (Jb.left now q).length ≤ q.length := by
  have h := congrArg List.length (Jb.due_left now q)
  simp only [List.length_append] at h
  omega
theorem run_len (s : Jb.Jt) (now : Int) : (Jb.run s now).2.1.length ≤ s.q.length ∧ (Jb.run s now).1.q.length ≤ s.q.length := by
  obtain ⟨h1, h2⟩ := dl_len now s.q
  unfold Jb.run
  split
  · exact ⟨h1, h2⟩
  · exact ⟨Nat.zero_le _, Nat.zero_le _⟩
theorem ins_len (q : List Jb.Wt) (w : Jb.Wt) : (Jb.ins q w).length = q.length + 1 := by
  have h := congrArg List.length (List.takeWhile_append_dropWhile (p := fun x => decide (Jb.bef x w)) (l := q))
  unfold Jb.ins
  simp only [List.length_append, List.length_cons] at h ⊢
  omega
theorem put0_len (s : Jb.Jt) (m : Jb.Md) : (Jb.put0 s m).1.q.length ≤ s.q.length + 1 := by
  have hq := (Jb.meas_q s m).1
  unfold Jb.put0
  split
  · exact Nat.le_succ _
  · split
    · exact Nat.le_succ _
    · split
      · exact Nat.le_succ _
      · dsimp only
        split
        · show (Jb.meas s m).q.length ≤ _
          rw [hq]; exact Nat.le_succ _
        · split
          · rw [hq]; exact Nat.le_succ _
          · show (Jb.ins (Jb.meas s m).q _).length ≤ _
            rw [ins_len, hq]; exact Nat.le_refl _
theorem put_len (s : Jb.Jt) (now : Int) (m : Jb.Md) : (Jb.put s now m).2.1.length ≤ s.q.length ∧ (Jb.put s now m).1.q.length ≤ s.q.length + 1 := by
  obtain ⟨h1, h2⟩ := dl_len now s.q
  have h3 := put0_len (Jb.run0 s now) m
  have h4 : (Jb.run0 s now).q.length ≤ s.q.length := h2
  unfold Jb.put
  split
  · exact ⟨h1, by show (Jb.put0 (Jb.run0 s now) m).1.q.length ≤ _; omega⟩
  · exact ⟨Nat.zero_le _, Nat.zero_le _⟩
/-- what Put leaves, its lengths as numbers of the plain lists -/
def JPutN (s : Jb.Jt) (pl : List Jb.Wt) (v er : Int) (w : World) (e : Ending) (w' : World) : Prop :=
  ∃ (A1 : Option Addr) (c1 : Nat) (l1 : List TW) (A2 : Option Addr) (c2 : Nat) (l2 : List TW), e = .returned (.tuple #[JV s A2 s.q.length c2, .slice A1 pl.length c1, .int .u8 v, .int .u8 er]) ∧ l1.map TW.w = pl ∧ l2.map TW.w = s.q ∧ Wts w' w'.heap.size A1 l1 ∧ Wts w' w'.heap.size A2 l2 ∧ s.q.length ≤ c2 ∧ c2 ≤ maxLen ∧ Below w.heap.size w w'
theorem JPutR.n {s : Jb.Jt} {now : Int} {m : Jb.Md} {w w' : World} {e : Ending} (h : JPutR s now m w e w') : JPutN (Jb.put s now m).1 (Jb.put s now m).2.1 (Jb.put s now m).2.2.1 (Jb.put s now m).2.2.2 w e w' := by
  obtain ⟨A1, c1, l1, A2, c2, l2, h1, h2, h3, h4, h5, h6, h7, h8⟩ := h
  have e1 : l1.length = (Jb.put s now m).2.1.length := by rw [← h2, List.length_map]
  have e2 : l2.length = (Jb.put s now m).1.q.length := by rw [← h3, List.length_map]
  rw [e1, e2] at h1
  rw [e2] at h6
  exact ⟨A1, c1, l1, A2, c2, l2, h1, h2, h3, h4, h5, h6, h7, h8.1⟩
/-- what Run leaves, so -/
def JRunN (s : Jb.Jt) (pl : List Jb.Wt) (er : Int) (w : World) (e : Ending) (w' : World) : Prop :=
  ∃ (A1 : Option Addr) (c1 : Nat) (l1 : List TW) (A2 : Option Addr) (c2 : Nat) (l2 : List TW), e = .returned (.tuple #[JV s A2 s.q.length c2, .slice A1 pl.length c1, .int .u8 er]) ∧ l1.map TW.w = pl ∧ l2.map TW.w = s.q ∧ Wts w' w'.heap.size A1 l1 ∧ Wts w' w'.heap.size A2 l2 ∧ s.q.length ≤ c2 ∧ c2 ≤ maxLen ∧ Below w.heap.size w w'
theorem JRunR.n {s : Jb.Jt} {now : Int} {w w' : World} {e : Ending} (h : JRunR s now w e w') : JRunN (Jb.run s now).1 (Jb.run s now).2.1 (Jb.run s now).2.2 w e w' := by
  obtain ⟨A1, c1, l1, A2, c2, l2, h1, h2, h3, h4, h5, h6, h7, h8⟩ := h
  have e1 : l1.length = (Jb.run s now).2.1.length := by rw [← h2, List.length_map]
  have e2 : l2.length = (Jb.run s now).1.q.length := by rw [← h3, List.length_map]
  rw [e1, e2] at h1
  rw [e2] at h6
  exact ⟨A1, c1, l1, A2, c2, l2, h1, h2, h3, h4, h5, h6, h7, h8.1⟩
theorem map_len {l : List TW} {q : List Jb.Wt} (h : l.map TW.w = q) : l.length = q.length := by rw [← h, List.length_map]
end Go.Proofs.Ytnaafjdnmbajjaa
/- Layer 30, JitterRuns: what is known of a state at a step. -/
namespace Go.Proofs.Ytnaafjdnmbajjaa
open Go.RowKit
set_option linter.unusedVariables false
/-- a state behind i steps, at most 65535 milliseconds each -/
structure AtStep (i : Nat) (now : Int) (s : Jb.Jt) : Prop where
  small : Jb.Small i s
  now0 : 0 ≤ now
  now1 : now ≤ 65535 * (i : Int)
  le : s.now ≤ now
theorem AtStep.init {l m : Int} (h : Jb.cfg l m) : AtStep 0 0 (Jb.new l m).1 := by
  refine ⟨Jb.small_new l m h, Int.le_refl _, Int.le_refl _, ?_⟩
  have hn : (Jb.new l m).1.now = 0 := by unfold Jb.new; rw [if_pos h]
  rw [hn]; exact Int.le_refl _
theorem AtStep.queue {i : Nat} {now : Int} {s : Jb.Jt} (h : AtStep i now s) : s.q.length ≤ 200 ∧ (∀ x ∈ s.q, I64 x.m.sq) ∧ (∀ x ∈ s.q, x.m.pl.length ≤ 1000000000) := by
  obtain ⟨q1, q2, _, _⟩ := (Jb.okQ_iff _ _ _).1 h.small.ok.2.2.2.2
  refine ⟨q1, fun x hx => ?_, fun x hx => ?_⟩
  · have := (q2 x hx).1.1
    unfold I64; omega
  · have := (q2 x hx).1.2.2
    omega
theorem AtStep.more {i : Nat} {now wt : Int} {s : Jb.Jt} (h : AtStep i now s) (hi : i ≤ 60) (w0 : 0 ≤ wt) (w1 : wt ≤ 65535) : s.now ≤ now + wt ∧ now + wt ≤ 281474976710656 ∧ 0 ≤ now + wt ∧ now + wt ≤ 65535 * ((i + 1 : Nat) : Int) := by
  have := h.now0
  have := h.now1
  have := h.le
  omega
theorem AtStep.run {i : Nat} {now wt : Int} {s : Jb.Jt} (h : AtStep i now s) (hi : i ≤ 60) (w0 : 0 ≤ wt) (w1 : wt ≤ 65535) : Jb.run s (now + wt) = (Jb.run0 s (now + wt), Jb.due (now + wt) s.q, 0) ∧ AtStep (i + 1) (now + wt) (Jb.run0 s (now + wt)) := by
  obtain ⟨m1, m2, m3, m4⟩ := h.more hi w0 w1
  refine ⟨?_, ?_, m3, m4, Int.le_refl _⟩
  · unfold Jb.run; rw [Jb.chk_run h.small.ok m1 m2, if_pos rfl]
  · have := Jb.small_run h.small (by omega) (now + wt) m1 m2
    simpa using this
theorem AtStep.put {i : Nat} {now wt : Int} {s : Jb.Jt} {m : Jb.Md} (h : AtStep i now s) (hi : i ≤ 60) (w0 : 0 ≤ wt) (w1 : wt ≤ 65535) (hm : m.ok) : ∃ (s' : Jb.Jt) (v : Int), Jb.put s (now + wt) m = (s', Jb.due (now + wt) s.q, v, 0) ∧ Jb.put0 (Jb.run0 s (now + wt)) m = (s', v) ∧ AtStep (i + 1) (now + wt) s' := by
  obtain ⟨m1, m2, m3, m4⟩ := h.more hi w0 w1
  refine ⟨(Jb.put0 (Jb.run0 s (now + wt)) m).1, (Jb.put0 (Jb.run0 s (now + wt)) m).2, ?_, rfl, ?_, m3, m4, ?_⟩
  · unfold Jb.put; rw [Jb.chk_put h.small.ok m1 m2 hm, if_pos rfl]
  · have := Jb.small_put h.small (by omega) (now + wt) m1 m2 m hm
    simpa using this
  · have := (Jb.put0_cnt (Jb.run0 s (now + wt)) m).2.2.2.1
    rw [this]; exact Int.le_refl _
theorem AtStep.bad {i : Nat} {now wt : Int} {s : Jb.Jt} {m : Jb.Md} (hm : ¬m.ok) : Jb.put s (now + wt) m = (Jb.Jt.none, [], 0, 2) := by
  have h2 := Jb.chk_bad (s := s) (now := now + wt) hm
  unfold Jb.put; rw [h2, if_neg (by decide)]
theorem AtStep.keep {i : Nat} {now wt : Int} {s : Jb.Jt} (h : AtStep i now s) (hi : i ≤ 60) (w0 : 0 ≤ wt) (w1 : wt ≤ 65535) : AtStep (i + 1) (now + wt) s := by
  obtain ⟨m1, m2, m3, m4⟩ := h.more hi w0 w1
  refine ⟨⟨h.small.ok, ?_, ?_, ?_⟩, m3, m4, m1⟩
  · have := h.small.late; simp; omega
  · have := h.small.twice; simp; omega
  · have := h.small.played; simp; omega
theorem due_le (now : Int) (q : List Jb.Wt) : (Jb.due now q).length ≤ q.length := (dl_len now q).1
theorem AtStep.valid {i : Nat} {now : Int} {s : Jb.Jt} (h : AtStep i now s) : Jb.valid s = true := by unfold Jb.valid; rw [decide_eq_true_iff]; exact h.small.ok
theorem rowsS {w : World} {n : Nat} {A : Option Addr} {l : List TStep} (h : RowsAt w n 7 TStep.row A l) {k : Nat} {a : TStep} (ha : l[k]? = some a) : ∃ b off, A = some ⟨b, off, none⟩ ∧ b < n ∧
    w.cell? ⟨b, off + k * 7, none⟩ = some (.int .u16 a.wait) ∧ w.cell? ⟨b, off + k * 7 + 1, none⟩ = some (.bool a.idle) ∧ w.cell? ⟨b, off + k * 7 + 2, none⟩ = some (.int .i64 a.m.sq) ∧ w.cell? ⟨b, off + k * 7 + 3, none⟩ = some (.int .i64 a.m.ti) ∧ w.cell? ⟨b, off + k * 7 + 4, none⟩ = some (.bool a.m.mrk) ∧ w.cell? ⟨b, off + k * 7 + 5, none⟩ = some (.int .u8 a.m.ty) ∧ w.cell? ⟨b, off + k * 7 + 6, none⟩ = some (.slice a.B a.m.pl.length a.c) := by
  obtain ⟨b, off, rfl, hb, hc⟩ := h (by have := (List.getElem?_eq_some_iff.1 ha).1; omega)
  exact ⟨b, off, rfl, hb, hc k a ha 0 _ rfl, hc k a ha 1 _ rfl, hc k a ha 2 _ rfl, hc k a ha 3 _ rfl, hc k a ha 4 _ rfl, hc k a ha 5 _ rfl, hc k a ha 6 _ rfl⟩
theorem rvalid_s2 (s : Jb.Jt) (A : Option Addr) (l : List TW) (n c : Nat) (w : World) (hq : l.map TW.w = s.q) (hn : l.length = n) (hl : n ≤ 100000) (hA : Wts w w.heap.size A l) (hP : ∀ a ∈ l, a.w.m.pl.length ≤ 1000000000) (v : Bool) (hv : v = Jb.valid s) : Calls Try.prog 19 #[.agg #[.int .i64 s.least, .int .i64 s.most, .int .i64 s.now, .bool s.on, .int .i64 s.zero, .int .i64 s.first, .int .i64 s.high, .int .i64 s.done, .int .i64 s.spread, .int .i64 s.trans, .slice A n c, .int .i64 s.late, .int .i64 s.twice, .int .i64 s.played]] w fun e w' => e = .returned (.bool v) ∧ Below w.heap.size w w' := by
  obtain ⟨le, mo, nw, on, ze, fi, hi, dn, sp, tr, q, la, tw, pd⟩ := s
  simp only at hq ⊢
  subst hq
  exact rvalid_any le mo nw on ze fi hi dn sp tr A l n c la tw pd w hn hl hA hP v hv
theorem playx_s2 (s : Jb.Jt) (A : Option Addr) (l : List TW) (n c : Nat) (t : Int) (w : World) (hq : l.map TW.w = s.q) (hn : l.length = n) (hl : n ≤ 100000) (hA : Wts w w.heap.size A l) (hK : ∀ a ∈ l, I64 a.w.m.sq) : Calls Try.prog 22 #[.agg #[.int .i64 s.least, .int .i64 s.most, .int .i64 s.now, .bool s.on, .int .i64 s.zero, .int .i64 s.first, .int .i64 s.high, .int .i64 s.done, .int .i64 s.spread, .int .i64 s.trans, .slice A n c, .int .i64 s.late, .int .i64 s.twice, .int .i64 s.played], .int .i64 t] w fun e w' => e = .returned (.int .i64 (Jb.play s t)) ∧ Below w.heap.size w w' := by
  obtain ⟨le, mo, nw, on, ze, fi, hi, dn, sp, tr, q, la, tw, pd⟩ := s
  simp only at hq ⊢
  subst hq
  exact playx_let le mo nw on ze fi hi dn sp tr A l n c la tw pd t w hn hl hA hK
theorem wfu16 {z : Int} (h : (Lit.int .u16 z).wf = true) : 0 ≤ z ∧ z ≤ 65535 := by
  have e1 : IntKind.u16.min = 0 := by decide
  have e2 : IntKind.u16.max = 65535 := by decide
  simpa [Lit.wf, e1, e2] using h
end Go.Proofs.Ytnaafjdnmbajjaa
/- Layer 30: what Run of the reference holds in memory while it works. -/
namespace Go.Proofs.Ytnaafjdnmbajjaa
open Go.RowKit
set_option linter.unusedVariables false
set_option linter.unusedSimpArgs false
attribute [local go_sem ↓] run_min_plain run_max_plain
attribute [local go_sem] setCell_drewN alloc_drewN
/-- the state's box, the result's box; two lists that the call has made -/
structure RSt (w W : World) (cs : List Value) (A1 : Option Addr) (n1 c1 : Nat) (l1 : List TW) (A2 : Option Addr) (n2 c2 : Nat) (l2 : List TW) : Prop where
  bs : Blk W w.heap.size 26 cs.toArray
  br : Blk W (w.heap.size + 1) 26 Z14.toArray
  u : Bel w W
  o1 : Owns W (w.heap.size + 1 + 1) 50 6 A1 n1 c1 (l1.flatMap TW.row)
  o2 : Owns W (w.heap.size + 1 + 1) 50 6 A2 n2 c2 (l2.flatMap TW.row)
  len1 : l1.length = n1
  len2 : l2.length = n2
  apart : ∀ g, ownB A1 = some g → ownB A2 ≠ some g
  hB : w.heap.size + 1 + 1 ≤ W.heap.size
section
variable {w W W' : World} {n1 c1 n2 c2 : Nat} {cs : List Value} {A1 A2 : Option Addr} {l1 l2 : List TW}
theorem RSt.later (h : RSt w W cs A1 n1 c1 l1 A2 n2 c2 l2) (hb : Below W.heap.size W W') : RSt w W' cs A1 n1 c1 l1 A2 n2 c2 l2 :=
  ⟨h.bs.later hb, h.br.later hb, h.u.later hb, h.o1.below hb, h.o2.below hb, h.len1, h.len2, h.apart, Nat.le_trans h.hB hb.size⟩
theorem RSt.one (h : RSt w W cs A1 n1 c1 l1 A2 n2 c2 l2) {An : Option Addr} {cn : Nat} {a : TW} (ho : Owns W' (w.heap.size + 1 + 1) 50 6 An (n1 + 1) cn (l1.flatMap TW.row ++ a.row)) (hg : W.grownBy W' (ownB A1)) (hat : ownB An = ownB A1 ∨ ∀ g, ownB An = some g → W.heap.size ≤ g) : RSt w W' cs An (n1 + 1) cn (l1 ++ [a]) A2 n2 c2 l2 := by
  have hge : ∀ g, ownB A1 = some g → w.heap.size + 1 + 1 ≤ g := fun g e => (h.o1.block g e).1
  refine ⟨h.bs.grown hg (fun e => by have := hge _ e.symm; omega), h.br.grown hg (fun e => by have := hge _ e.symm; omega), h.u.grown hg (by have := h.hB; omega) (fun g e => by have := hge g e; omega), by rw [List.flatMap_append]; simpa using ho, h.o2.grown hg (fun g e e1 => h.apart g e1 e), by simp [h.len1], h.len2, fun g e e2 => ?_, Nat.le_trans h.hB hg.size⟩
  rcases hat with e1 | e1
  · exact h.apart g (e1 ▸ e) e2
  · have := e1 g e
    have := (h.o2.block g e2).2
    omega
theorem RSt.swap (h : RSt w W cs A1 n1 c1 l1 A2 n2 c2 l2) : RSt w W cs A2 n2 c2 l2 A1 n1 c1 l1 := ⟨h.bs, h.br, h.u, h.o2, h.o1, h.len2, h.len1, fun g e e2 => h.apart g e2 e, h.hB⟩
theorem RSt.set (h : RSt w W cs A1 n1 c1 l1 A2 n2 c2 l2) (i : Nat) (v : Value) : RSt w (W.setCell ⟨w.heap.size, i, none⟩ v) (cs.set i v) A1 n1 c1 l1 A2 n2 c2 l2 := by
  have hge1 : ∀ g, ownB A1 = some g → g ≠ w.heap.size := fun g e => by have := (h.o1.block g e).1; omega
  have hge2 : ∀ g, ownB A2 = some g → g ≠ w.heap.size := fun g e => by have := (h.o2.block g e).1; omega
  refine ⟨?_, h.br.far (by simp) _, below_set_old h.u (Nat.le_refl _) _, h.o1.setCell hge1 _, h.o2.setCell hge2 _, h.len1, h.len2, h.apart, by simpa [World.setCell] using h.hB⟩
  have := h.bs.set_ i v
  simpa using this
theorem RSt.drew (h : RSt w W cs A1 n1 c1 l1 A2 n2 c2 l2) : RSt w W.drew cs A1 n1 c1 l1 A2 n2 c2 l2 := h.later (Below.refl _ _).drew
theorem RSt.drewN (h : RSt w W cs A1 n1 c1 l1 A2 n2 c2 l2) : ∀ k, RSt w (W.drewN k) cs A1 n1 c1 l1 A2 n2 c2 l2
  | 0 => h
  | k + 1 => (h.drewN k).drew
/-- a list of these, whose payloads are the argument's -/
theorem own_wts {B : Nat} {A : Option Addr} {n c : Nat} {l : List TW} (ho : Owns W B 50 6 A n c (l.flatMap TW.row)) (hl : l.length = n) (hp : ∀ a ∈ l, IntsAt W W.heap.size .u8 a.B a.w.m.pl) : Wts W W.heap.size A l := ⟨Owns.rows ho hl (fun a => rfl), hp⟩
/-- the result is written -/
theorem RSt.fin (h : RSt w W cs A1 n1 c1 l1 A2 n2 c2 l2) (vs : List Value) (hl : vs.length = 14) (hp1 : ∀ a ∈ l1, IntsAt w w.heap.size .u8 a.B a.w.m.pl) (hp2 : ∀ a ∈ l2, IntsAt w w.heap.size .u8 a.B a.w.m.pl) : Blk (setRow (w.heap.size + 1) W 0 vs) (w.heap.size + 1) 26 vs.toArray ∧ Wts (setRow (w.heap.size + 1) W 0 vs) (setRow (w.heap.size + 1) W 0 vs).heap.size A1 l1 ∧ Wts (setRow (w.heap.size + 1) W 0 vs) (setRow (w.heap.size + 1) W 0 vs).heap.size A2 l2 ∧ n2 ≤ c2 ∧ c2 ≤ maxLen ∧ Below w.heap.size w (setRow (w.heap.size + 1) W 0 vs) := by
  have U := Go.Proofs.Ytnaafjdnmbajjaa.below_setRow (g := w.heap.size + 1) (by omega) vs W 0 h.u
  have hz := U.size
  have p : ∀ (l : List TW), (∀ a ∈ l, IntsAt w w.heap.size .u8 a.B a.w.m.pl) → ∀ a ∈ l, IntsAt (setRow (w.heap.size + 1) W 0 vs) (setRow (w.heap.size + 1) W 0 vs).heap.size .u8 a.B a.w.m.pl := fun l hl a ha => ((hl a ha).keep (fun p hp => U.cell hp)).more hz
  have q1 := Owns.setRow (w.heap.size + 1) vs W 0 (fun b e => by have := (h.o1.block b e).1; omega) h.o1
  have q2 := Owns.setRow (w.heap.size + 1) vs W 0 (fun b e => by have := (h.o2.block b e).1; omega) h.o2
  exact ⟨h.br.setRow vs (by simp [Z14, hl]), own_wts q1 h.len1 (p _ hp1), own_wts q2 h.len2 (p _ hp2), h.o2.cap, Owns.capm h.o2, U⟩
end
def dueT (now : Int) (a : TW) : Bool := decide (a.w.at_ ≤ now)
theorem dueT_due {now : Int} {l : List TW} (h : Jb.Asc (l.map TW.w)) : (l.filter (dueT now)).map TW.w = Jb.due now (l.map TW.w) ∧ (l.filter (fun a => !dueT now a)).map TW.w = Jb.left now (l.map TW.w) := by
  obtain ⟨h1, h2⟩ := Jb.filter_due now _ h
  rw [← h1, ← h2, List.filter_map, List.filter_map]
  exact ⟨rfl, rfl⟩
theorem take_one {l : List TW} {k : Nat} {a : TW} (h : l[k]? = some a) (p : TW → Bool) : (p a = true → (l.take (k + 1)).filter p = (l.take k).filter p ++ [a]) ∧ (p a = false → (l.take (k + 1)).filter p = (l.take k).filter p) := by
  rw [List.take_add_one, h, List.filter_append]
  refine ⟨fun e => ?_, fun e => ?_⟩ <;> simp [e]
theorem maxSq_snoc2 (d : Int) (l : List Jb.Wt) (a : Jb.Wt) : Jb.maxSq d (l ++ [a]) = max (Jb.maxSq d l) a.m.sq := by simp [Jb.maxSq]
end Go.Proofs.Ytnaafjdnmbajjaa
