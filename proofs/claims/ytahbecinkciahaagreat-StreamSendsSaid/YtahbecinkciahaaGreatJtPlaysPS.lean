/- Layer 30: what is taken waits till its time comes; no program in sight. -/
import Derived.Test.YtahbecinkciahaaGreatJtRun2S
import Derived.Test.YtahbecinkciahaaGreatSbSr8S
import Derived.Test.YtahbecinkciahaaGreatSs9S
import Derived.Test.YtahbecinkciahaaGreatSbRecvS
import Derived.Test.YtahbecinkciahaaGreatJtCopyS
import Derived.Test.YtahbecinkciahaaGreatSbDecsS
import Derived.Test.YtahbecinkciahaaGreatJtPutG1S
import Derived.Test.YtahbecinkciahaaGreatJtMeas2S
import Derived.Deep.QuietTactic
import Derived.BigQuiet
import Derived.RegionTactic
import Derived.Laws.BitsAllLaws
import Derived.BigRegion
set_option linter.unusedVariables false
set_option linter.unusedSimpArgs false
set_option maxRecDepth 100000
set_option maxHeartbeats 12800000
namespace Go.Proofs.YtahbecinkciahaaGreat.Jb
open Go.RowKit
theorem zrt (s : Jt) (t : Int) (h : s.ok) (h1 : -281474976710656 ≤ t) (h2 : t ≤ 281474976710656) : play s t = ptime s t := by
 unfold play
 rw [if_pos ⟨h, h1, h2⟩]
theorem put0_cases (s : Jt) (m : Md) (h : s.ok) (hm : m.ok) (hl : s.late < 281474976710656) (ht : s.twice < 281474976710656) :
 ((put0 s m).2 = 1 ∧ s.now < play (put0 s m).1 m.ti ∧ play (put0 s m).1 m.ti ≤ s.now + 120000 ∧ (put0 s m).1.q = ins s.q ⟨play (put0 s m).1 m.ti, m⟩ ∧ (s.q.any fun w => w.m.sq == m.sq) = false) ∨
 ((put0 s m).2 ≠ 1 ∧ (put0 s m).2 ≠ 0 ∧ (put0 s m).1.q = s.q ∧ (s.now < play (put0 s m).1 m.ti → play (put0 s m).1 m.ti ≤ s.now + 120000 → (put0 s m).1.done < m.sq → (s.q.any fun w => w.m.sq == m.sq) = false → ¬s.q.length < 200)) := by
 have hok := znp s m h hm hl ht
 have hp := zrt _ m.ti hok hm.2.1.1 hm.2.1.2
 rw [hp]
 clear hp hok
 by_cases h1 : (s.q.any fun w => w.m.sq == m.sq) = true
 · right
   have e : put0 s m = ({ s with twice := s.twice + 1 }, 3) := by unfold put0; rw [if_pos h1]
   rw [e]
   exact ⟨by simp, by simp, rfl, fun _ _ _ h2 => by rw [h1] at h2; cases h2⟩
 by_cases h2 : s.on = true ∧ m.sq ≤ s.done
 · right
   have e : put0 s m = ({ s with late := s.late + 1 }, 2) := by unfold put0; rw [if_neg h1, if_pos h2]
   rw [e]
   exact ⟨by simp, by simp, rfl, fun _ _ h3 => by have h4 : s.done < m.sq := h3; omega⟩
 by_cases h3 : 200 ≤ s.q.length
 · right
   have e : put0 s m = (s, 4) := by unfold put0; rw [if_neg h1, if_neg h2, if_pos h3]
   rw [e]
   exact ⟨by simp, by simp, rfl, fun _ _ _ _ => by show ¬s.q.length < 200; omega⟩
 by_cases h4 : ptime (meas s m) m.ti ≤ s.now
 · right
   have e : put0 s m = ({ (meas s m) with late := (meas s m).late + 1 }, 2) := by unfold put0; rw [if_neg h1, if_neg h2, if_neg h3]; dsimp only; rw [if_pos h4]
   rw [e]
   exact ⟨by simp, by simp, rfl, fun h5 => by have h6 : s.now < ptime (meas s m) m.ti := h5; omega⟩
 by_cases h5 : s.now + 120000 < ptime (meas s m) m.ti
 · right
   have e : put0 s m = (meas s m, 5) := by unfold put0; rw [if_neg h1, if_neg h2, if_neg h3]; dsimp only; rw [if_neg h4, if_pos h5]
   rw [e]
   exact ⟨by simp, by simp, rfl, fun _ h6 => by have h7 : ptime (meas s m) m.ti ≤ s.now + 120000 := h6; omega⟩
 · left
   have e : put0 s m = ({ (meas s m) with q := ins (meas s m).q ⟨ptime (meas s m) m.ti, m⟩ }, 1) := by unfold put0; rw [if_neg h1, if_neg h2, if_neg h3]; dsimp only; rw [if_neg h4, if_neg h5]
   rw [e]
   exact ⟨rfl, by show s.now < ptime (meas s m) m.ti; omega, by show ptime (meas s m) m.ti ≤ s.now + 120000; omega, rfl, by simpa using h1⟩
def ins' (q : List Wt) (w : Wt) : List Wt := q.takeWhile (fun x => !decide (bef w x)) ++ w :: q.dropWhile (fun x => !decide (bef w x))
def Near (now : Int) (q : List Wt) : Prop := ∀ w ∈ q, w.at_ ≤ now + 120000
theorem near_left {now now' : Int} {q : List Wt} (h : Near now q) (hn : now ≤ now') : Near now' (left now' q) := fun w hw => by
 have := h w ((left_sub now' q).subset hw)
 omega
theorem near_ins {now : Int} {q : List Wt} {w : Wt} (h : Near now q) (hw : w.at_ ≤ now + 120000) : Near now (ins q w) := fun x hx => by
 rcases List.mem_cons.1 ((zdk q w).subset hx) with rfl | hx
 · exact hw
 · exact h x hx
theorem put0_cnt (s : Jt) (m : Md) : (put0 s m).1.late ≤ s.late + 1 ∧ (put0 s m).1.twice ≤ s.twice + 1 ∧ (put0 s m).1.played = s.played ∧ (put0 s m).1.now = s.now ∧ (put0 s m).1.least = s.least ∧ (put0 s m).1.most = s.most := by
 unfold put0
 split
 · exact ⟨by show s.late ≤ _; omega, Int.le_refl _, rfl, rfl, rfl, rfl⟩
 split
 · exact ⟨Int.le_refl _, by show s.twice ≤ _; omega, rfl, rfl, rfl, rfl⟩
 split
 · exact ⟨by show s.late ≤ _; omega, by show s.twice ≤ _; omega, rfl, rfl, rfl, rfl⟩
 dsimp only
 split
 · exact ⟨Int.le_refl _, by show s.twice ≤ _; omega, rfl, rfl, rfl, rfl⟩
 split
 · exact ⟨by show s.late ≤ _; omega, by show s.twice ≤ _; omega, rfl, rfl, rfl, rfl⟩
 · exact ⟨by show s.late ≤ _; omega, by show s.twice ≤ _; omega, rfl, rfl, rfl, rfl⟩
structure Small (n : Int) (s : Jt) : Prop where
 ok : s.ok
 late : s.late ≤ n
 twice : s.twice ≤ n
 played : s.played ≤ 200 * n
theorem small_new (l m : Int) (h : cfg l m) : Small 0 (new l m).1 := by
 refine ⟨new_ok l m h, ?_, ?_, ?_⟩ <;> (unfold new; rw [if_pos h]; exact Int.le_refl _)
theorem small_run {n : Int} {s : Jt} (h : Small n s) (hn : n ≤ 1000) (now : Int) (h1 : s.now ≤ now) (h2 : now ≤ 281474976710656) : Small (n + 1) (run0 s now) := by
 have hl : (due now s.q).length ≤ s.q.length := (due_sub now s.q).length_le
 have h200 : s.q.length ≤ 200 := h.ok.2.2.2.2.1
 have hp := h.played
 have h0 := h.late
 have h3 := h.twice
 exact ⟨run0_ok s now h.ok h1 h2 (by omega), by show s.late ≤ _; omega, by show s.twice ≤ _; omega, by show s.played + ((due now s.q).length : Int) ≤ _; omega⟩
theorem small_put {n : Int} {s : Jt} (h : Small n s) (hn : n ≤ 1000) (now : Int) (h1 : s.now ≤ now) (h2 : now ≤ 281474976710656) (m : Md) (hm : m.ok) : Small (n + 1) (put0 (run0 s now) m).1 := by
 have hr := small_run h hn now h1 h2
 obtain ⟨c1, c2, c3, _⟩ := put0_cnt (run0 s now) m
 have e1 : (run0 s now).late = s.late := rfl
 have e2 : (run0 s now).twice = s.twice := rfl
 have h3 := h.late
 have h4 := h.twice
 have h5 := hr.played
 exact ⟨znp _ m hr.ok hm (by omega) (by omega), by omega, by omega, by omega⟩
theorem chk_run {s : Jt} {now : Int} (h : s.ok) (h1 : s.now ≤ now) (h2 : now ≤ 281474976710656) : chk s now true = 0 := by
 unfold chk
 rw [if_neg (fun hc => ?_), if_neg (by omega)]
 rcases hc with hc | hc | hc
 · exact hc h
 · omega
 · cases hc
theorem chk_put {s : Jt} {now : Int} {m : Md} (h : s.ok) (h1 : s.now ≤ now) (h2 : now ≤ 281474976710656) (hm : m.ok) : chk s now (decide m.ok) = 0 := by
 rw [decide_eq_true hm]
 exact chk_run h h1 h2
theorem zgj {s : Jt} {now : Int} {m : Md} (hm : ¬m.ok) : chk s now (decide m.ok) = 2 := by
 unfold chk
 rw [if_pos (Or.inr (Or.inr (decide_eq_false hm)))]
end Go.Proofs.YtahbecinkciahaaGreat.Jb
namespace Go.Proofs.YtahbecinkciahaaGreat.Sb
open Go.RowKit
theorem enc_in (c : Int) (s : Int × Int) (zs : List Int) (hs : Dlt.valid s.1 s.2 = true) (hl : zs.length = 160) : (∀ z ∈ (enc c s zs).1, 0 ≤ z ∧ z ≤ 255) ∧ (enc c s zs).1.length ≤ 160 ∧ Dlt.valid (enc c s zs).2.1 (enc c s zs).2.2 = true := by
 unfold enc
 split
 · refine ⟨fun z hz => ?_, by rw [List.length_map]; omega, hs⟩
   obtain ⟨x, _, rfl⟩ := List.mem_map.1 hz
   have := Cmp.mu_lt x
   unfold Cmp.muZ; omega
 split
 · refine ⟨fun z hz => ?_, by rw [List.length_map]; omega, hs⟩
   obtain ⟨x, _, rfl⟩ := List.mem_map.1 hz
   have := Cmp.aCode_lt x
   unfold Cmp.aZ; omega
 · refine ⟨fun z hz => ?_, by rw [Dlt.packB_len]; omega, Dlt.stAt_valid s hs zs _⟩
   obtain ⟨j, _, rfl⟩ := List.mem_map.1 hz
   exact Dlt.packAt_bd s hs zs _ j
theorem zef {α : Type} {p : α → Bool} : ∀ (l : List α) (a : α), a ∈ l.takeWhile p → p a = true
 | [], a, h => by cases h
 | b :: l, a, h => by
   rw [List.takeWhile_cons] at h
   split at h
   · rename_i hb
     rcases List.mem_cons.1 h with e | h
     · rw [e]; exact hb
     · exact zef l a h
   · cases h
structure SpkI (c : Int) (p : Pt) (i many : Nat) : Prop where
 sp : speechB c = true
 codec : p.codec = c
 src : p.src = 7
 seq : p.seq = (many : Int)
 time : p.time = 160 * (i : Int)
 below : 0 ≤ p.below ∧ p.below ≤ 10
 cod : Dlt.valid p.cv p.ci = true
 tn : p.tn = Ev.Snd.zero
 jv : Jb.valid p.jt = true
 jq : p.jt.q = []
 tk : p.tk = Pk.Tr.zero
 ht : p.ht = 0
 pk : 0 ≤ p.pk ∧ p.pk ≤ 4294967295
 oc : 0 ≤ p.oc ∧ p.oc ≤ 4294967295
 seed : 0 ≤ p.seed ∧ p.seed ≤ 4294967295
 le : many ≤ i
 i60 : i ≤ 60
theorem zty {c : Int} (h : speechB c = true) : 0 ≤ c ∧ c ≤ 255 := by
 rcases zbq.1 h with rfl | rfl | rfl <;> decide
theorem SpkI.valid {c : Int} {p : Pt} {i many : Nat} (h : SpkI c p i many) : p.valid = true := by
 have hn : p.near := by unfold Pt.near; rw [h.tk, h.ht]; decide
 unfold Pt.valid
 rw [h.codec, h.sp, h.cod, h.jv, h.tn, tn0, decide_eq_true hn]; rfl
theorem SpkI.wf {c : Int} {p : Pt} {i many : Nat} (h : SpkI c p i many) : p.wf := by
 have h1 := h.le
 have h2 := h.i60
 have h3 := h.below
 constructor
 · rw [h.codec]; exact zty h.sp
 · rw [h.src]; decide
 · rw [h.seq]; omega
 · rw [h.time]; omega
 · omega
 · rw [h.tn]; decide
 · rw [h.tn]; decide
 · rw [h.tn]; decide
 · exact h.seed
 · exact h.pk
 · exact h.oc
theorem SpkI.step {c : Int} {p : Pt} {i many : Nat} (h : SpkI c p i many) (zs : List Int) (hi : i < 60) (hl : zs.length = 160) (hz : ∀ z ∈ zs, -32768 ≤ z ∧ z ≤ 32767) :
 ∃ more : Nat, (send0 p zs).2.length = more ∧ more ≤ 1 ∧ SpkI c (send0 p zs).1 (i + 1) (many + more) ∧
  ∀ k ∈ (send0 p zs).2, k.sq = (many : Int) ∧ k.ti = 160 * (i : Int) ∧ (speechB k.ty = true ∨ k.ty = 13) ∧ k.pl.length ≤ 1500 ∧ ∀ z ∈ k.pl, 0 ≤ z ∧ z ≤ 255 := by
 have h1 := h.le
 have hb0 := h.below
 have hq : 0 ≤ Ev.quiet p.below zs ∧ Ev.quiet p.below zs ≤ 10 := by unfold Ev.quiet; split <;> omega
 have ht : ¬(p.tn.on = true ∨ p.tn.ends ≠ 0) := by rw [h.tn]; decide
 unfold send0
 rw [if_neg ht]
 split
 · split
   · refine ⟨1, rfl, Nat.le_refl _, ⟨h.sp, h.codec, h.src, ?_, ?_, hq, h.cod, h.tn, h.jv, h.jq, h.tk, h.ht, ?_, ?_, h.seed, by omega, by omega⟩, ?_⟩
     · show (p.seq + 1) % 65536 = _; rw [h.seq]; omega
     · show (p.time + 160) % 4294967296 = _; rw [h.time]; omega
     · show 0 ≤ (p.pk + 1) % 4294967296 ∧ (p.pk + 1) % 4294967296 ≤ 4294967295; omega
     · show 0 ≤ (p.oc + _) % 4294967296 ∧ (p.oc + _) % 4294967296 ≤ 4294967295; omega
     · intro k hk
       obtain rfl := List.mem_singleton.1 hk
       refine ⟨h.seq, h.time, .inr rfl, by show 1 ≤ 1500; omega, fun z hz2 => ?_⟩
       obtain rfl := List.mem_singleton.1 hz2
       have := Ev.lev_bd zs hz
       omega
   · refine ⟨0, rfl, by omega, ⟨h.sp, h.codec, h.src, h.seq, ?_, hq, h.cod, h.tn, h.jv, h.jq, h.tk, h.ht, h.pk, h.oc, h.seed, by omega, by omega⟩, ?_⟩
     · show (p.time + 160) % 4294967296 = _; rw [h.time]; omega
     · intro k hk; cases hk
 · obtain ⟨e1, e2, e3⟩ := enc_in p.codec (p.cv, p.ci) zs h.cod hl
   refine ⟨1, rfl, Nat.le_refl _, ⟨h.sp, h.codec, h.src, ?_, ?_, hq, e3, h.tn, h.jv, h.jq, h.tk, h.ht, ?_, ?_, h.seed, by omega, by omega⟩, ?_⟩
   · show (p.seq + 1) % 65536 = _; rw [h.seq]; omega
   · show (p.time + 160) % 4294967296 = _; rw [h.time]; omega
   · show 0 ≤ (p.pk + 1) % 4294967296 ∧ (p.pk + 1) % 4294967296 ≤ 4294967295; omega
   · show 0 ≤ (p.oc + _) % 4294967296 ∧ (p.oc + _) % 4294967296 ≤ 4294967295; omega
   · intro k hk
     obtain rfl := List.mem_singleton.1 hk
     refine ⟨h.seq, h.time, .inl ?_, ?_, e1⟩
     · show speechB p.codec = true; rw [h.codec]; exact h.sp
     · show (enc p.codec (p.cv, p.ci) zs).1.length ≤ 1500; omega
theorem SpkI.start {c l m : Int} (hs : speechB c = true) (hc : Jb.cfg l m) : SpkI c (new c 7 l m).1 0 0 ∧ (new c 7 l m).2 = 0 := by
 have e : new c 7 l m = ({ Pt.zero with codec := c, src := 7, mrk := true, jt := (Jb.new l m).1, seed := 7 }, 0) := by
  unfold new
  rw [if_neg (by rw [hs]; decide), if_pos hc]
 have hv : Jb.valid (Jb.new l m).1 = true := by unfold Jb.valid; rw [decide_eq_true_iff]; exact Jb.new_ok l m hc
 have hq : (Jb.new l m).1.q = [] := by unfold Jb.new; rw [if_pos hc]
 rw [e]
 exact ⟨⟨hs, rfl, rfl, rfl, rfl, (⟨(by decide : (0 : Int) ≤ 0), (by decide : (0 : Int) ≤ 10)⟩), by show Dlt.valid 0 0 = true; decide, rfl, hv, hq, rfl, rfl, (⟨(by decide : (0 : Int) ≤ 0), (by decide : (0 : Int) ≤ 4294967295)⟩), (⟨(by decide : (0 : Int) ≤ 0), (by decide : (0 : Int) ≤ 4294967295)⟩), ⟨(by decide : (0 : Int) ≤ 7), (by decide : (7 : Int) ≤ 4294967295)⟩, Nat.le_refl _, by omega⟩, rfl⟩
theorem zel (c : Int) (pl : List Int) (s : Int) (h : 0 ≤ s ∧ s ≤ 4294967295) : 0 ≤ (dec c pl s).2 ∧ (dec c pl s).2 ≤ 4294967295 := by
 unfold dec
 split
 · split
   · have e : (Ev.noise (pl.getD 0 0) s 160).2.1 = (Ev.seed s 159 * 1103515245 + 12345) % 4294967296 := by
      unfold Ev.noise
      rw [if_neg (by omega)]; rfl
     rw [e]; omega
   · exact h
 · exact h
theorem zcg : ∀ (l : List Jb.Wt) (s : Int), 0 ≤ s ∧ s ≤ 4294967295 → 0 ≤ (sounds s l).1 ∧ (sounds s l).1 ≤ 4294967295
 | [], s, h => h
 | a :: l, s, h => by
   show 0 ≤ (sounds (dec a.m.ty a.m.pl s).2 l).1 ∧ (sounds (dec a.m.ty a.m.pl s).2 l).1 ≤ 4294967295
   exact zcg l _ (zel _ _ _ h)
theorem zey : ∀ (l : List Jb.Wt) (s : Int), (sounds s l).2.map (fun d => (d.at_, d.ks.length)) = l.map (fun a => (a.at_, 0))
 | [], s => rfl
 | a :: l, s => by
   show _ :: (sounds (dec a.m.ty a.m.pl s).2 l).2.map _ = _ :: l.map _
   rw [zey l]; rfl
theorem zfs (l : List Jb.Wt) (s : Int) : (sounds s l).2.length = l.length := by
 have := congrArg List.length (zey l s)
 simpa using this
def lastS (z : Int) (l : List Sd) : Int := l.foldl (fun _ d => d.at_) z
structure LisI (u : Pt) (i : Nat) (now last : Int) (many taken : Nat) : Prop where
 wf : u.wf
 sp : speechB u.codec = true
 cod : Dlt.valid u.cv u.ci = true
 tn : u.tn = Ev.Snd.zero
 tk : u.tk = Pk.Tr.zero ∨ ∃ h : Int, u.tk = ⟨true, h, -1⟩ ∧ 0 ≤ h ∧ h < 60
 ht : 0 ≤ u.ht ∧ u.ht ≤ 9600
 sm : Jb.Small i u.jt
 near : Jb.Near u.jt.now u.jt.q
 n0 : u.jt.now ≤ now
 n1 : 1000 ≤ now
 n2 : now ≤ 1000 + 255 * (i : Int)
 l0 : 0 ≤ last
 l1 : last ≤ u.jt.now
 pl : u.jt.played = (many : Int)
 tkn : taken = many + u.jt.q.length
theorem LisI.valid {u : Pt} {i many taken : Nat} {now last : Int} (h : LisI u i now last many taken) : u.valid = true := by
 have h1 := h.ht
 have hn : u.near := by
  unfold Pt.near
  rcases h.tk with e | ⟨x, e, x0, x1⟩
  · rw [e]; show 0 ≤ (0 : Int) ∧ (0 : Int) ≤ 140737488355328 ∧ -1 ≤ (0 : Int) ∧ (0 : Int) ≤ 65535 ∧ _; omega
  · rw [e]; show 0 ≤ x ∧ x ≤ 140737488355328 ∧ -1 ≤ (-1 : Int) ∧ (-1 : Int) ≤ 65535 ∧ _; omega
 have hj : Jb.valid u.jt = true := by unfold Jb.valid; rw [decide_eq_true_iff]; exact h.sm.ok
 unfold Pt.valid
 rw [h.sp, h.cod, hj, h.tn, tn0, decide_eq_true hn]; rfl
theorem LisI.chk {u : Pt} {i many taken : Nat} {now last : Int} (h : LisI u i now last many taken) (t : Int) (h1 : now ≤ t) (h2 : t ≤ 281474976710656) : chkT u t = 0 := by
 have := h.n0
 unfold chkT
 rw [if_neg (by rw [h.valid]; rintro (e | e); cases e; omega), if_neg (by omega)]
theorem LisI.skip {u : Pt} {i many taken : Nat} {now last : Int} (h : LisI u i now last many taken) (late : Int) (t0 : 0 ≤ late) (t1 : late ≤ 255) : LisI u (i + 1) (now + late) last many taken := by
 have h1 := h.sm.late
 have h2 := h.sm.twice
 have h3 := h.sm.played
 have h4 := h.n0
 have h5 := h.n1
 have h6 := h.n2
 exact ⟨h.wf, h.sp, h.cod, h.tn, h.tk, h.ht, ⟨h.sm.ok, by push_cast; omega, by push_cast; omega, by push_cast; omega⟩, h.near, by omega, by omega, by push_cast; omega, h.l0, h.l1, h.pl, h.tkn⟩
theorem LisI.start {c l m : Int} (hs : speechB c = true) (hc : Jb.cfg l m) : LisI (new c 7 l m).1 0 1000 0 0 0 := by
 have e : new c 7 l m = ({ Pt.zero with codec := c, src := 7, mrk := true, jt := (Jb.new l m).1, seed := 7 }, 0) := by
  unfold new
  rw [if_neg (by rw [hs]; decide), if_pos hc]
 have hw := (SpkI.start hs hc).1.wf
 have hq : (Jb.new l m).1.q = [] ∧ (Jb.new l m).1.now = 0 ∧ (Jb.new l m).1.played = 0 := by unfold Jb.new; rw [if_pos hc]; exact ⟨rfl, rfl, rfl⟩
 have hsm := Jb.small_new l m hc
 rw [e] at hw ⊢
 refine ⟨hw, hs, by show Dlt.valid 0 0 = true; decide, rfl, .inl rfl, by show 0 ≤ (0 : Int) ∧ (0 : Int) ≤ 9600; omega, by simpa using hsm, ?_, ?_, by omega, by simp, by omega, ?_, ?_, ?_⟩
 · show Jb.Near (Jb.new l m).1.now (Jb.new l m).1.q
   rw [hq.1]; intro w hw2; cases hw2
 · show (Jb.new l m).1.now ≤ 1000
   rw [hq.2.1]; omega
 · show 0 ≤ (Jb.new l m).1.now
   rw [hq.2.1]; omega
 · show (Jb.new l m).1.played = _
   rw [hq.2.2]; rfl
 · show 0 = 0 + (Jb.new l m).1.q.length
   rw [hq.1]; rfl
theorem ztd (h s : Int) (h0 : 0 ≤ h) (h1 : h < 60) (s0 : 0 ≤ s) (s1 : s < 60) : Pk.near h s 65536 = s := by
 unfold Pk.near
 rw [if_neg (by omega)]
 split <;> omega
theorem zte (h s : Int) (h0 : 0 ≤ h) (h1 : h ≤ 9600) (s0 : 0 ≤ s) (s1 : s ≤ 9600) : Pk.near h s 4294967296 = s := by
 unfold Pk.near
 rw [if_neg (by omega)]
 split <;> omega
theorem LisI.follow {u : Pt} {i many taken : Nat} {now last : Int} (h : LisI u i now last many taken) (s : Int) (s0 : 0 ≤ s) (s1 : s < 60) : ∃ x : Int, Pk.follow u.tk s = (⟨true, x, -1⟩, s, true) ∧ 0 ≤ x ∧ x < 60 := by
 rcases h.tk with e | ⟨x, e, x0, x1⟩
 · refine ⟨s, ?_, s0, s1⟩
   rw [e]; unfold Pk.follow
   rw [if_neg (fun hn => hn (by decide)), if_pos (show Pk.Tr.zero.on = false from rfl)]
 · refine ⟨max x s, ?_, by omega, by omega⟩
   rw [e]; unfold Pk.follow
   have hok : Pk.Tr.ok ⟨true, x, -1⟩ := by unfold Pk.Tr.ok; simp only; omega
   rw [if_neg (fun hn => hn hok), if_neg (by simp)]
   simp only [ztd x s x0 x1 s0 s1]
   rw [if_pos (by omega)]
theorem zru {l : List Jb.Wt} (h : l.Pairwise Jb.bef) : l.Pairwise fun a b => a.at_ ≤ b.at_ := h.imp fun hb => Jb.bef_at hb
theorem LisI.recv {u : Pt} {i many taken : Nat} {now last : Int} (h : LisI u i now last many taken) (hi : i < 60) (x : Arr) (late : Int) (t0 : 0 ≤ late) (t1 : late ≤ 255) (s0 : 0 ≤ x.sq) (s1 : x.sq < 60) (i0 : 0 ≤ x.ti) (i1 : x.ti ≤ 9600) (hty : speechB x.ty = true ∨ x.ty = 13) (hpl : x.pl.length ≤ 1500) :
 ∃ (m : Jb.Md) (u' : Pt) (v : Int) (sds : List Sd) (tr : Pk.Tr), Pk.follow u.tk x.sq = (tr, x.sq, true) ∧ time u x = x.ti ∧ m = ⟨x.sq, x.ti, x.mrk, x.ty, x.pl⟩ ∧ (Jb.put u.jt (now + late) m).2.2.2 = 0 ∧ recv0 u (now + late) x = (u', v, sds) ∧
  LisI u' (i + 1) (now + late) (lastS last sds) (many + sds.length) (taken + if v = 1 then 1 else 0) ∧ (∀ d ∈ sds, d.ks = [] ∧ last ≤ d.at_ ∧ d.at_ ≤ now + late) ∧ sds.Pairwise (fun a b => a.at_ ≤ b.at_) := by
 have h4 := h.n0
 have h5 := h.n1
 have h6 := h.n2
 have hl0 := h.l0
 have hl1 := h.l1
 obtain ⟨y, hf, y0, y1⟩ := h.follow x.sq s0 s1
 have hti : time u x = x.ti := by
  unfold time
  split
  · exact zte _ _ h.ht.1 h.ht.2 i0 i1
  · rfl
 obtain ⟨m, hm⟩ : ∃ m : Jb.Md, m = ⟨x.sq, x.ti, x.mrk, x.ty, x.pl⟩ := ⟨_, rfl⟩
 have hmo : m.ok := by rw [hm]; unfold Jb.Md.ok; simp only; omega
 have hmt : m.ti = x.ti := by rw [hm]
 have n1 : u.jt.now ≤ now + late := by omega
 have n2 : now + late ≤ 281474976710656 := by omega
 obtain ⟨s', v, hp0⟩ : ∃ s' v, Jb.put0 (Jb.run0 u.jt (now + late)) m = (s', v) := ⟨_, _, rfl⟩
 have hput : Jb.put u.jt (now + late) m = (s', Jb.due (now + late) u.jt.q, v, 0) := by
  unfold Jb.put
  rw [Jb.chk_put h.sm.ok n1 n2 hmo, if_pos rfl, hp0]
 have hsr := Jb.small_run h.sm (by omega) (now + late) n1 n2
 have hsp := Jb.small_put h.sm (by omega) (now + late) n1 n2 m hmo
 have hpc := Jb.put0_cnt (Jb.run0 u.jt (now + late)) m
 have hcs := Jb.put0_cases (Jb.run0 u.jt (now + late)) m hsr.ok hmo (by have := hsr.late; omega) (by have := hsr.twice; omega)
 rw [hp0] at hsp hpc hcs
 simp only at hsp hpc hcs
 have hnl := Jb.near_left h.near n1
 have hdl := congrArg List.length (Jb.due_left (now + late) u.jt.q)
 rw [List.length_append] at hdl
 obtain ⟨q1, q2, q3, q4⟩ := (Jb.okQ_iff _ _ _).1 h.sm.ok.2.2.2.2
 have hlen := zfs (Jb.due (now + late) u.jt.q) u.seed
 have hats := zey (Jb.due (now + late) u.jt.q) u.seed
 obtain ⟨sds, hsds⟩ : ∃ l, l = (sounds u.seed (Jb.due (now + late) u.jt.q)).2 := ⟨_, rfl⟩
 rw [← hsds] at hlen hats
 have hdue : ∀ a ∈ Jb.due (now + late) u.jt.q, last ≤ a.at_ ∧ a.at_ ≤ now + late := fun a ha => by
  have h1 := (q2 a ((Jb.due_sub _ _).subset ha)).2.1
  have h2 : a.at_ ≤ now + late := by
   have := zef _ _ ha
   simpa using this
  omega
 have hall : ∀ d ∈ sds, d.ks = [] ∧ last ≤ d.at_ ∧ d.at_ ≤ now + late := fun d hd => by
  have h1 : (d.at_, d.ks.length) ∈ (Jb.due (now + late) u.jt.q).map (fun a => (a.at_, 0)) := by rw [← hats]; exact List.mem_map.2 ⟨d, hd, rfl⟩
  obtain ⟨a, ha, e⟩ := List.mem_map.1 h1
  injection e with e1 e2
  have := hdue a ha
  exact ⟨List.eq_nil_of_length_eq_zero e2.symm, by omega, by omega⟩
 have hpw : sds.Pairwise (fun a b => a.at_ ≤ b.at_) := by
  have h1 := zru (q3.sublist (Jb.due_sub (now + late) u.jt.q))
  have h2 : (sds.map (fun d => (d.at_, d.ks.length))).Pairwise (fun a b => a.1 ≤ b.1) := by rw [hats, List.pairwise_map]; exact h1
  rw [List.pairwise_map] at h2
  exact h2
 have hls : ∀ (l : List Sd) (z : Int), (∀ d ∈ l, last ≤ d.at_ ∧ d.at_ ≤ now + late) → last ≤ z ∧ z ≤ now + late → last ≤ lastS z l ∧ lastS z l ≤ now + late := by
  intro l
  induction l with
  | nil => intro z _ hz; exact hz
  | cons a l ih => intro z hd hz; exact ih a.at_ (fun d hd2 => hd d (List.mem_cons_of_mem _ hd2)) (hd a (List.mem_cons_self ..))
 have hlast := hls sds last (fun d hd => (hall d hd).2) ⟨Int.le_refl _, by omega⟩
 have hk : known x ≠ false := by
  unfold known
  rcases hty with e | e
  · rw [e]; simp
  · rw [e]; simp
 have h101 : ¬x.ty = 101 := by
  rcases hty with e | e
  · rcases zbq.1 e with e | e | e <;> omega
  · omega
 refine ⟨m, { u with tk := ⟨true, y, -1⟩, ht := if u.tk.on = false ∨ u.ht < x.ti then x.ti else u.ht, st := Rep.arrive u.st x.sq (8 * (now + late)) x.ti, jt := s', seed := (sounds u.seed (Jb.due (now + late) u.jt.q)).1 }, v, sds, _, hf, hti, hm, by rw [hput], ?_, ⟨?_, h.sp, h.cod, h.tn, .inr ⟨y, rfl, y0, y1⟩, ?_, ?_, ?_, ?_, by omega, by push_cast; omega, by omega, ?_, ?_, ?_⟩, hall, hpw⟩
 · unfold recv0
   rw [if_neg hk]
   simp only [hf, hti]
   rw [if_neg (by decide), if_neg h101, ← hm, hput, hsds]
 · exact ⟨h.wf.codec, h.wf.src, h.wf.seq, h.wf.time, h.wf.below, h.wf.tvol, h.wf.tcode, h.wf.tst, zcg _ _ h.wf.seed, h.wf.pk, h.wf.oc⟩
 · show 0 ≤ (if u.tk.on = false ∨ u.ht < x.ti then x.ti else u.ht) ∧ (if u.tk.on = false ∨ u.ht < x.ti then x.ti else u.ht) ≤ 9600
   have := h.ht
   split <;> omega
 · exact hsp
 · show Jb.Near s'.now s'.q
   rw [hpc.2.2.2.1]
   rcases hcs with ⟨c1, c2, c3, c4, c5⟩ | ⟨c1, c2, c3, c4⟩
   · rw [c4]; exact Jb.near_ins hnl c3
   · rw [c3]; exact hnl
 · show s'.now ≤ _
   rw [hpc.2.2.2.1]; exact Int.le_refl _
 · show lastS last sds ≤ s'.now
   rw [hpc.2.2.2.1]; exact hlast.2
 · show s'.played = _
   rw [hpc.2.2.1, hlen]
   show u.jt.played + ((Jb.due (now + late) u.jt.q).length : Int) = _
   rw [h.pl]; push_cast; omega
 · show taken + (if v = 1 then 1 else 0) = many + sds.length + s'.q.length
   have htk := h.tkn
   rcases hcs with ⟨c1, c2, c3, c4, c5⟩ | ⟨c1, c2, c3, c4⟩
   · rw [if_pos c1, c4, Jb.ins_len]
     show _ = _ + ((Jb.left (now + late) u.jt.q).length + 1)
     omega
   · rw [if_neg c1, c3]
     show _ = _ + (Jb.left (now + late) u.jt.q).length
     omega
theorem LisI.done {u : Pt} {i many taken : Nat} {now last : Int} (h : LisI u i now last many taken) (hi : i ≤ 60) : (Jb.run u.jt (now + 200000)).2.2 = 0 ∧ many + (run u (now + 200000)).2.length = taken ∧ (run u (now + 200000)).1.jt.played = (taken : Int) := by
 have h4 := h.n0
 have h5 := h.n1
 have h6 := h.n2
 have hr : Jb.run u.jt (now + 200000) = (Jb.run0 u.jt (now + 200000), Jb.due (now + 200000) u.jt.q, 0) := by
  unfold Jb.run; rw [Jb.chk_run h.sm.ok (by omega) (by omega), if_pos rfl]
 obtain ⟨q1, q2, q3, q4⟩ := (Jb.okQ_iff _ _ _).1 h.sm.ok.2.2.2.2
 have hl : Jb.left (now + 200000) u.jt.q = [] := by
  apply List.eq_nil_iff_forall_not_mem.2
  intro w hw
  have h1 := Jb.left_gt (now + 200000) u.jt.q q3 w hw
  have h2 := h.near w ((Jb.left_sub _ u.jt.q).subset hw)
  omega
 have hdl := congrArg List.length (Jb.due_left (now + 200000) u.jt.q)
 rw [List.length_append, hl] at hdl
 have htk := h.tkn
 simp only [List.length_nil] at hdl
 refine ⟨by rw [hr], ?_, ?_⟩
 · unfold run
   rw [hr]
   show many + (sounds u.seed (Jb.due (now + 200000) u.jt.q)).2.length = _
   rw [zfs]; omega
 · unfold run
   rw [hr]
   show u.jt.played + ((Jb.due (now + 200000) u.jt.q).length : Int) = _
   rw [h.pl, htk]; push_cast; omega
end Go.Proofs.YtahbecinkciahaaGreat.Sb
namespace Go.Proofs.YtahbecinkciahaaGreat
attribute [local go_sem ↓] zac zad
attribute [local go_sem] zab zag
open Go.RowKit
theorem ztf {w W : World} {p : Sb.Pt} {A : Option Addr} {l : List TW} {n c : Nat} {gl gq : Nat} {ZA : Option Addr} {zs : List Int} {zc : Nat} {A0 : Option Addr} {l0 : List TW} {n0 c0 : Nat} (C : SC w p A0 l0 n0 c0 ZA zs zc) (S : SS w W gl p A n c l none 0 0) (BQ : Blk W gq 33 #[.int .i64 (Ev.quiet p.below zs)]) (hgq : gl < gq) (hon : p.tn.on = false) (hen : p.tn.ends = 0) (hqu : ¬Ev.quiet p.below zs = 10) (a : Act) (ha : FrS w.heap.size gl gq ZA zc (Ev.quiet p.below zs == 10) a) : firstWp Tryz.prog sdB_code (bodyPost Tryz.prog Tryz.f23 (SendR ({ (Sb.emit { p with below := Ev.quiet p.below zs } p.codec p.time p.mrk (Sb.enc p.codec (p.cv, p.ci) zs).1).1 with mrk := false, cv := (Sb.enc p.codec (p.cv, p.ci) zs).2.1, ci := (Sb.enc p.codec (p.cv, p.ci) zs).2.2, time := (p.time + 160) % 4294967296 }, [(Sb.emit { p with below := Ev.quiet p.below zs } p.codec p.time p.mrk (Sb.enc p.codec (p.cv, p.ci) zs).1).2]) w)) a W := by
 obtain ⟨s, rfl, e1, e2, e4, e7, e8, e9, e10, _⟩ := ha
 rw [r139, e1, e2, e4, e7, e8, e9, e10]
 clear e1 e2 e4 e7 e8 e9 e10
 have hvb : speechB p.codec = true ∧ Dlt.valid p.cv p.ci = true := by
  have hv := C.v
  unfold Sb.Pt.valid at hv
  simp only [Bool.and_eq_true] at hv
  exact ⟨hv.1.1.1.1, hv.1.1.1.2⟩
 obtain ⟨FK, FC, FD, hE⟩ := encK p.codec p.cv p.ci hvb.1 hvb.2 ZA zc zs C.zb C.zl
 have hel := (Sb.enc_in p.codec (p.cv, p.ci) zs hvb.2 C.zl).2.1
 generalize Sb.enc p.codec (p.cv, p.ci) zs = EE at *
 obtain ⟨bs, es⟩ := EE
 obtain ⟨QN, hQN⟩ : ∃ q, q = Ev.quiet p.below zs := ⟨_, rfl⟩
 have HW5 := H9 (show ({ p with below := QN } : Sb.Pt).wf from ⟨C.wf.codec, C.wf.src, C.wf.seq, C.wf.time, by rw [hQN]; show -9223372036854775808 ≤ Ev.quiet p.below zs ∧ Ev.quiet p.below zs ≤ 9223372036854775807; unfold Ev.quiet; split <;> omega, C.wf.tvol, C.wf.tcode, C.wf.tst, C.wf.seed, C.wf.pk, C.wf.oc⟩)
 rw [← hQN] at BQ hqu ⊢
 rw [show (QN == 10) = false by rw [beq_eq_false_iff_ne]; exact hqu]
 clear hqu hQN
 obtain ⟨q9, hq9⟩ : ∃ q, q = (Sb.emit { p with below := QN } p.codec p.time p.mrk bs).1 := ⟨_, rfl⟩
 obtain ⟨k9, hk9⟩ : ∃ k, k = (Sb.emit { p with below := QN } p.codec p.time p.mrk bs).2 := ⟨_, rfl⟩
 simp only at hel
 rw [← hq9, ← hk9]
 have HQ9 := H9 hq9
 have HK9 := H9 hk9
 have H9T := H9 (show q9.time = p.time by rw [hq9]; rfl)
 have H9P := H9 (show k9.pl = bs by rw [hk9]; rfl)
 clear hq9 hk9 hvb
 refine zgr ?_
 intro _ _
 have hgg := S.lt
 have x8 := S.cell 8 _ rfl
 have x13 := S.cell 13 _ rfl
 rw [hon] at x8
 rw [hen] at x13
 go_upto_region 8 with (first | (refine zae rfl 33 (.tmp 9) rfl (gq) 0 rfl 33 ([.int .i64 QN]) BQ 1 _ Tryz.underlying33 zbh (show 0 + 1 ≤ 1 by decide) (#[.int .i64 QN]) (by rfl) rfl ?_) | (refine zaf rfl 33 (.tmp 42) (.tmp 41) rfl (w.heap.size) 5 rfl 48 (PL p A n c) S.m.box ([.int .i64 QN]) rfl zbh (show 5 + 1 ≤ 48 by decide) rfl (PL { p with below := QN } A n c) rfl ?_; intro WG BG OG) | fail)
 clear x8 x13
 replace S := S.over OG BG rfl
 clear BG OG BQ
 have x0d : WG.cell? ⟨w.heap.size, 0, none⟩ = some (.int .u8 p.codec) := S.cell 0 _ rfl
 have x6d : WG.cell? ⟨w.heap.size, 6, none⟩ = some (.int .i64 p.cv) := S.cell 6 _ rfl
 have x7d : WG.cell? ⟨w.heap.size, 7, none⟩ = some (.int .i64 p.ci) := S.cell 7 _ rfl
 simp only [Act.put]
 have hglt := S.bl.lt
 have hqlt := S.u.size
 refine zto w.heap.size p.codec p.cv p.ci C.wf.codec.1 C.wf.codec.2 ZA zs zc bs es FK FC FD hE WG x0d x6d x7d (C.z.later S.u) (fun _ _ _ _ _ h => h) ?_
 intro wx A8 c8 g8 u43 u44 u45 u46 u47 u48 u49 u50 u51 u52 u53 u54 u55 HI8 HD8 hg8 HB8
 have hwx := HB8.out.size
 have HN8 := H9 HI8.out.2
 replace S := S.later HB8.out
 clear x0d x6d x7d HB8
 have HP9 : Hid (IntsAv wx [gl, w.heap.size + 1, w.heap.size] .u8 A8 bs) := H9 (IntsAv.of_new HI8.out (by intro x hx; simp at hx; omega))
 replace hg8 := hg8.out
 have k6 := H9 fun (V : World) hM hL => zgd [gl, w.heap.size + 1, w.heap.size] w.heap.size gl { p with below := QN } HW5.out A n c l p.codec p.time p.mrk A8 bs c8 V hM (by simp) (by simp) (by omega) hL (by omega)
 have x0 := S.cell 0 _ rfl
 have x3 := S.cell 3 _ rfl
 have x4 := S.cell 4 _ rfl
 go_upto_region 11 with fail
 go_wp2_with fail
 refine (k6.out _ S.m S.bl).mono ?_
 rintro e w8 ⟨rfl, A9, c9, M9, L9, O9, C9⟩
 rw [← HQ9.out] at M9
 rw [← HK9.out] at O9
 replace S := S.emit M9 L9 C9
 replace HP9 := H9 (HP9.out.chg C9 (by simp))
 replace HD8 := H9 (C9.blk HD8.out (by simp; omega))
 have K9 : Hid (PkS w8 w.heap.size [gl, w.heap.size + 1, w.heap.size] A9 [⟨k9, A8, c8⟩]) := H9 (PkS.one O9 HP9.out H9P.out (by intro x hx; simp at hx; omega) (by omega) (fun h0 b off e => by have := HN8.out h0 b off e; omega))
 clear M9 L9 O9 C9 x0 x3 x4 HI8 k6 HP9
 have x4 := S.cell 4 _ rfl
 have z4 := Blk.frozen S.m.box 4
 go_upto_region 13 with fail
 obtain ⟨WH, hV⟩ : ∃ V, V = w8.setCell ⟨w.heap.size, 4, none⟩ (.bool false) := ⟨_, rfl⟩
 rw [← hV]
 have OV : OnlyB w.heap.size w8 WH := by rw [hV]; exact OnlyB.setCell _ _ _ _
 replace S : SS w WH gl { q9 with mrk := false } A n c l A9 1 c9 := by rw [hV]; exact S.set 4 _ rfl rfl
 replace K9 := H9 (K9.out.chg (Chg.of_only OV (S := [w.heap.size]) (by simp)) (by simp))
 replace HD8 := H9 (OV.blk HD8.out (by omega))
 clear hV OV x4 z4
 obtain ⟨es1, es2⟩ := es
 go_upto_region 31 with (first | (refine zae rfl 24 (.tmp 18) rfl (g8) 0 rfl 24 ([.int .i64 es1, .int .i64 es2]) HD8.out 2 _ Tryz.underlying24 zdp (show 0 + 2 ≤ 2 by decide) (#[.int .i64 es1, .int .i64 es2]) (by rfl) rfl ?_) | (refine zaf rfl 24 (.tmp 71) (.tmp 70) rfl (w.heap.size) 6 rfl 48 (PL { q9 with mrk := false } A n c) S.m.box ([.int .i64 es1, .int .i64 es2]) rfl zdp (show 6 + 2 ≤ 48 by decide) rfl (PL { q9 with mrk := false, cv := es1, ci := es2 } A n c) rfl ?_; intro WJ BJ OJ) | fail)
 replace S := S.over OJ BJ rfl
 replace K9 := H9 (K9.out.chg (Chg.of_only OJ (S := [w.heap.size]) (by simp)) (by simp))
 clear BJ OJ HD8
 refine zcv (by assumption) ?_
 have ht := C.wf.time
 rw [← H9T.out] at ht ⊢
 exact zka (ks := [⟨k9, A8, c8⟩]) S K9.out ht.1 ht.2 _ FrT.mk
end Go.Proofs.YtahbecinkciahaaGreat
namespace Go.Proofs.YtahbecinkciahaaGreat
open Go.RowKit
theorem zkl {w : World} {p : Sb.Pt} {A : Option Addr} {l : List TW} {n c : Nat} {ZA : Option Addr} {zs : List Int} {zc : Nat} {X : Array Value} (C : SC w p A l n c ZA zs zc) (hX : X = PA p A n c) (hon : p.tn.on = false) (hen : p.tn.ends = 0) : Calls Tryz.prog 23 #[.agg X, .slice ZA 160 zc] w (SendR (Sb.send0 p zs) w) := by
 refine zjz C hX fun W a gl gq A2 c2 l2 S BQ hgq ha => ?_
 unfold Sb.send0 Sb.later
 rw [if_neg (by rw [hon, hen]; decide)]
 by_cases hq : Ev.quiet p.below zs = 10
 · rw [if_pos hq]
   by_cases hb : p.below < 10
   · rw [if_pos hb]
     have h := zsw C S BQ hgq hon hen hq hb a ha
     simp only [hq] at h ⊢
     exact h
   · rw [if_neg hb]
     have h := zsv C S BQ hgq hon hen hq hb a ha
     simp only [hq] at h ⊢
     exact h
 · rw [if_neg hq]
   exact ztf C S BQ hgq hon hen hq a ha
end Go.Proofs.YtahbecinkciahaaGreat
namespace Go.Proofs.YtahbecinkciahaaGreat
attribute [local go_sem ↓] zac zad
attribute [local go_sem] zab zag
open Go.RowKit
def NewP (k src l m : Int) (w : World) (e : Ending) (w' : World) : Prop := e = .returned (.tuple #[.agg (PA (Sb.new k src l m).1 none 0 0), .int .u8 (Sb.new k src l m).2]) ∧ Below w.heap.size w w'
theorem znr (k src l m : Int) (h0 : 0 ≤ k) (h1 : k ≤ 255) (w : World) : Calls Tryz.prog 19 #[.int .u8 k, .int .u32 src, .agg #[.int .i64 l, .int .i64 m]] w (NewP k src l m w) := by
 have BC := H9 ((Blk.new w 37 #[.int .i64 l, .int .i64 m]).push (.cells (PA Sb.Pt.zero none 0 0) 48))
 have B1 := H9 (Blk.new1 w (.cells #[.int .i64 l, .int .i64 m] 37) 48 (PA Sb.Pt.zero none 0 0))
 have U0 := H9 (((Bel.refl w).push (.cells #[.int .i64 l, .int .i64 m] 37)).push (.cells (PA Sb.Pt.zero none 0 0) 48))
 have k1 := H9 fun W => zds k W h0 h1
 have k2 := H9 fun W => zsm l m W
 unfold NewR at k2
 obtain ⟨v, hv⟩ : ∃ v, v = speechB k := ⟨_, rfl⟩
 rw [← hv] at k1
 have HV := H9 hv
 clear hv
 go_enter Tryz.func19, Tryz.ntmps19
 go_upto_region 1 with fail
 change Code.wp _ _ _ _ ((w.alloc (Obj.cells #[.int .i64 l, .int .i64 m] 37)).alloc (Obj.cells (PA Sb.Pt.zero none 0 0) 48))
 obtain ⟨W, hW⟩ : ∃ W, W = (w.alloc (Obj.cells #[.int .i64 l, .int .i64 m] 37)).alloc (Obj.cells (PA Sb.Pt.zero none 0 0) 48) := ⟨_, rfl⟩
 rw [← hW] at BC B1 U0 ⊢
 clear hW
 go_wp2_with fail
 refine (k1.out _).mono ?_
 rintro e w1 ⟨rfl, hb1⟩
 replace U0 := H9 (U0.out.later hb1)
 replace BC := H9 (BC.out.later hb1)
 replace B1 := H9 (B1.out.later hb1)
 have hlt := B1.out.lt
 clear hb1
 cases v
 · have HN : Hid (Sb.new k src l m = (Sb.Pt.zero, 15)) := H9 (by unfold Sb.new; rw [← HV.out, if_pos rfl])
   go_wp2_with (first | (refine zaf rfl 48 (.tmp 6) (.tmp 13) rfl (w.heap.size + 1) 0 rfl 48 (PL Sb.Pt.zero none 0 0) B1.out (PL Sb.Pt.zero none 0 0) rfl zah (show 0 + 48 ≤ 48 by decide) rfl (PL Sb.Pt.zero none 0 0) rfl ?_; intro WH BH OH) | fail)
   refine bodyPost_ret (v := .tuple #[.agg (PA (Sb.new k src l m).1 none 0 0), .int .u8 (Sb.new k src l m).2]) (zat Tryz.results19 rfl (by rw [HN.out]; exact PB.load BH) (by rw [HN.out]; rfl)) rfl ⟨rfl, OH.bel U0.out (by omega)⟩
 have c0 := BC.out.at 0 _ rfl
 have c1 := BC.out.at 1 _ rfl
 go_wp2_with fail
 refine (k2.out _).mono ?_
 rintro e w2 ⟨rfl, hb2⟩
 replace U0 := H9 (U0.out.later hb2)
 replace B1 := H9 (B1.out.later hb2)
 have HN : Hid (Sb.new k src l m = (if (Jb.new l m).2 = 0 then { Sb.Pt.zero with codec := k, src := src, mrk := true, jt := (Jb.new l m).1, seed := src } else Sb.Pt.zero, (Jb.new l m).2)) := H9 (by
  unfold Sb.new Jb.new
  rw [← HV.out, if_neg (by decide)]
  by_cases hc : Jb.cfg l m
  · rw [if_pos hc, if_pos hc]; rfl
  · rw [if_neg hc, if_neg hc]; rfl)
 have hus := U0.out.size
 clear hb2 c0 c1
 unfold JV
 generalize Jb.new l m = R at *
 obtain ⟨R1, R2⟩ := R
 simp only at HN
 have BJ := H9 (Blk.new w2 40 (JW R1 none 0 0).toArray)
 obtain ⟨g1, hg1⟩ : ∃ g, g = w2.heap.size := ⟨_, rfl⟩
 obtain ⟨W3, hW3⟩ : ∃ W, W = w2.alloc (.cells (JW R1 none 0 0).toArray 40) := ⟨_, rfl⟩
 have BB := H9 (show Below w2.heap.size w2 W3 by rw [hW3]; exact (Below.refl _ _).alloc (Nat.le_refl _) _)
 rw [← hg1, ← hW3] at BJ
 go_upto_region 4 with fail
 rw [← hg1]
 change Code.wp _ _ _ _ (w2.alloc (Obj.cells (JW R1 none 0 0).toArray 40))
 rw [← hW3]
 replace U0 := H9 (U0.out.later BB.out)
 replace B1 := H9 (B1.out.later BB.out)
 clear hW3 hg1 BB
 by_cases hr : R2 = 0
 rotate_left
 · replace HN := H9 (HN.out.trans (by rw [if_neg hr]))
   go_wp2_with (first | (refine zaf rfl 48 (.tmp 6) (.tmp 21) rfl (w.heap.size + 1) 0 rfl 48 (PL Sb.Pt.zero none 0 0) B1.out (PL Sb.Pt.zero none 0 0) rfl zah (show 0 + 48 ≤ 48 by decide) rfl (PL Sb.Pt.zero none 0 0) rfl ?_; intro WH BH OH) | fail)
   refine bodyPost_ret (v := .tuple #[.agg (PA (Sb.new k src l m).1 none 0 0), .int .u8 (Sb.new k src l m).2]) (zat Tryz.results19 rfl (by rw [HN.out]; exact PB.load BH) (by rw [HN.out]; rfl)) rfl ⟨rfl, OH.bel U0.out (by omega)⟩
 subst hr
 replace HN := H9 (HN.out.trans (by rw [if_pos rfl]))
 go_wp2_with (first | (refine zae rfl 40 (.tmp 8) rfl (g1) 0 rfl 40 (JW R1 none 0 0) BJ.out 14 _ Tryz.underlying40 zbc (show 0 + 14 ≤ 14 by decide) (#[.int .i64 R1.least, .int .i64 R1.most, .int .i64 R1.now, .bool R1.on, .int .i64 R1.zero, .int .i64 R1.first, .int .i64 R1.high, .int .i64 R1.done, .int .i64 R1.spread, .int .i64 R1.trans, .slice none 0 0, .int .i64 R1.late, .int .i64 R1.twice, .int .i64 R1.played]) (by rfl) rfl ?_) | (refine zaf rfl 48 (.tmp 6) (.tmp 27) rfl (w.heap.size + 1) 0 rfl 48 (PL Sb.Pt.zero none 0 0) B1.out (PL { Sb.Pt.zero with codec := k, src := src, mrk := true, jt := R1, seed := src } none 0 0) rfl zah (show 0 + 48 ≤ 48 by decide) rfl (PL { Sb.Pt.zero with codec := k, src := src, mrk := true, jt := R1, seed := src } none 0 0) rfl ?_; intro WH BH OH) | fail)
 refine bodyPost_ret (v := .tuple #[.agg (PA (Sb.new k src l m).1 none 0 0), .int .u8 (Sb.new k src l m).2]) (zat Tryz.results19 rfl (by rw [HN.out]; exact PB.load BH) (by rw [HN.out]; rfl)) rfl ⟨rfl, OH.bel U0.out (by omega)⟩
theorem zpo {W : World} {n bc : Nat} {KA B : Option Addr} (h : Pks W n KA [⟨lvk, B, bc⟩]) : ∃ b o, KA = some ⟨b, o, none⟩ ∧ b < n ∧ W.cell? ⟨b, o, none⟩ = some (.bool true) ∧ W.cell? ⟨b, o + 1, none⟩ = some (.int .u8 0) ∧ W.cell? ⟨b, o + 2, none⟩ = some (.int .u16 0) ∧ W.cell? ⟨b, o + 3, none⟩ = some (.int .u32 0) ∧ W.cell? ⟨b, o + 4, none⟩ = some (.int .u32 7) ∧ W.cell? ⟨b, o + 5, none⟩ = some (.slice none 0 0) ∧ W.cell? ⟨b, o + 6, none⟩ = some (.bool false) ∧ W.cell? ⟨b, o + 7, none⟩ = some (.int .u16 0) ∧ W.cell? ⟨b, o + 8, none⟩ = some (.slice none 0 0) ∧ W.cell? ⟨b, o + 9, none⟩ = some (.slice B 160 bc) ∧ W.cell? ⟨b, o + 10, none⟩ = some (.int .i64 0) := by
 obtain ⟨b, o, e, hlt, hc⟩ := h.1 (by simp)
 have c := fun j v hv => hc 0 ⟨lvk, B, bc⟩ rfl j v hv
 simp only [Nat.zero_mul, Nat.add_zero] at c
 have c9 := c 9 (.slice B (Sb.flatL 206).length bc) rfl
 rw [Sb.flatL_len] at c9
 exact ⟨b, o, e, hlt, c 0 _ rfl, c 1 _ rfl, c 2 _ rfl, c 3 _ rfl, c 4 _ rfl, c 5 _ rfl, c 6 _ rfl, c 7 _ rfl, c 8 _ rfl, c9, c 10 _ rfl⟩
theorem zpp {W : World} {n : Nat} {B : Option Addr} (h : IntsAt W n .u8 B (Sb.flatL 206)) : ∃ b o, B = some ⟨b, o, none⟩ ∧ W.cell? ⟨b, o + 159, none⟩ = some (.int .u8 206) := by
 obtain ⟨b, o, e, hlt, hc⟩ := h (by rw [Sb.flatL_len]; omega)
 have c := hc 159 (by rw [Sb.flatL_len]; omega)
 have e2 : (Sb.flatL 206).getD 159 0 = 206 := by decide +kernel
 rw [e2] at c
 exact ⟨b, o, e, c⟩
theorem Sds.one {W : World} {g c : Nat} {at_ : Int} {S : Option Addr} {zs : List Int} (hb : Blk W g 86 #[.int .i64 at_, .slice S zs.length c, .slice none 0 0]) (hI : IntsAt W W.heap.size .i16 S zs) : Sds W W.heap.size (some ⟨g, 0, none⟩) [⟨⟨at_, zs, []⟩, S, c⟩] := by
 refine ⟨fun _ => ⟨g, 0, rfl, hb.lt, fun i a ha j v hv => ?_⟩, fun a ha => ?_⟩
 · obtain ⟨hi, rfl⟩ : i = 0 ∧ (⟨⟨at_, zs, []⟩, S, c⟩ : TS) = a := by
    cases i with
    | zero => exact ⟨rfl, by simpa using ha⟩
    | succ i => simp at ha
   subst hi
   have h2 : j < 3 := (List.getElem?_eq_some_iff.1 hv).1
   have := hb.at j v (by simpa [TS.row] using hv)
   simpa using this
 · obtain rfl := List.mem_singleton.1 ha
   exact hI
theorem zlo (V : World) (ZA : Option Addr) (zc : Nat) (hZ : IntsAt V V.heap.size .i16 ZA (Sb.flatL 1000)) : Calls Tryz.prog 23 #[.agg (PA Sb.lv0 none 0 0), .slice ZA 160 zc] V (SendR (Sb.send0 Sb.lv0 (Sb.flatL 1000)) V) :=
 zkl (l := []) ⟨Sb.lv_wf, Sb.jb40.2.1.symm, rfl, Nat.zero_le _, Nat.le_refl _, Nat.zero_le _, Wts.nil, (fun _ h => by cases h), (fun _ h => by cases h), hZ, (Sb.flatL_in (by omega) (by omega)), (Sb.flatL_len _), Sb.lv_valid⟩ rfl rfl rfl
theorem ztg : Sb.chkT Sb.lv0 100 = 0 := by
 unfold Sb.chkT
 rw [Sb.lv_valid, if_neg (by decide), if_neg (by decide)]
theorem zrv : Sb.chkT Sb.lv1 140 = 0 := by
 unfold Sb.chkT
 rw [Sb.lv1_valid, if_neg (by decide), if_neg (by decide)]
theorem zlp (V : World) (B : Option Addr) (bc : Nat) (hI : IntsAt V V.heap.size .u8 B (Sb.flatL 206)) : Calls Tryz.prog 11 #[.agg (PA Sb.lv0 none 0 0), .int .i64 100, .agg #[.bool true, .int .u8 0, .int .u16 0, .int .u32 0, .int .u32 7, .slice none 0 0, .bool false, .int .u16 0, .slice none 0 0, .slice B 160 bc, .int .i64 0]] V (RecvR (Sb.lv1, 1, []) V) := by
 have h := zpd Sb.lv0 Sb.lv_wf none [] 0 0 (PA Sb.lv0 none 0 0) rfl V Sb.jb40.2.1.symm rfl (Nat.zero_le _) (Nat.le_refl _) (Nat.zero_le _) Wts.nil (fun _ h => by cases h) 100 true 0 0 0 7 none 0 0 false 0 none 0 0 B (Sb.flatL 206) bc 0 (by omega) (by omega) (by decide) (by omega) (by omega) (by omega) (by omega) (by rw [Sb.flatL_len]; omega) hI (by omega) ztg (fun a h => by have e : Sb.lv0.jt.q = [] := Sb.jb40.2.1; rw [e] at h; cases h) rfl ⟨true, 0, -1⟩ 0 Sb.lv_follow ⟨40, 200, 100, true, 140, 0, 0, -1, 0, 100, [⟨140, Sb.lvm⟩], 0, 0, 0⟩ [] 1 (Prod.ext Sb.lv_put.1 Sb.lv_put.2)
 rw [Sb.flatL_len] at h
 exact h
theorem zlq (V : World) (A : Option Addr) (l : List TW) (n c : Nat) (hq : l.map TW.w = Sb.lv1.jt.q) (hn : l.length = n) (hcap : n ≤ c) (hcm : c ≤ maxLen) (hA : Wts V V.heap.size A l) : Calls Tryz.prog 15 #[.agg (PA Sb.lv1 A n c), .int .i64 140] V (PlayV Sb.lv1 140 V) := by
 have hl : n ≤ 100000 := by
  have h := congrArg List.length hq
  have e : Sb.lv1.jt.q.length = 1 := rfl
  rw [e, List.length_map] at h
  omega
 have hm : ∀ a ∈ l, a.w = ⟨140, Sb.lvm⟩ := fun a ha => by
  have h : a.w ∈ l.map TW.w := List.mem_map_of_mem ha
  rw [hq] at h
  exact List.mem_singleton.1 h
 refine zsk Sb.lv1 Sb.lv1_wf A l n c (PA Sb.lv1 A n c) rfl V hq hn hl hcap hcm hA (fun a ha => by rw [hm a ha]; unfold I64; decide) 140 zrv (fun a ha => ?_)
 obtain rfl := List.mem_singleton.1 ha
 refine ⟨by decide, by decide, ?_, by show (Sb.flatL 206).length ≤ 8000; rw [Sb.flatL_len]; omega⟩
 intro z hz
 obtain rfl := List.eq_of_mem_replicate hz
 decide
theorem zhw (w : World) : Calls Tryz.prog 7 #[] w fun e w' => e = .returned (.bool true) ∧ Below w.heap.size w w' := by
 have kN := H9 fun W => znr 0 7 40 200 (by omega) (by omega) W
 unfold NewP at kN
 rw [Sb.lv_new] at kN
 dsimp only at kN
 go_enter Tryz.func7, Tryz.ntmps7
 go_wp2_with fail
 refine (zme _).mono ?_
 rintro e w1 ⟨rfl, hb1⟩
 go_wp2_with fail
 refine (kN.out _).mono ?_
 rintro e w2 ⟨rfl, hb2⟩
 have U2 := H9 (Bel.later (Bel.later (Bel.refl w) hb1) hb2)
 clear hb1 hb2
 have BZ : Blk (w2.alloc (Obj.cells #[.int .u8 0, .int .u32 0, .int .u16 0, .int .u32 0, .bool false, .int .i64 0, .int .i64 0, .int .i64 0, .bool false, .int .u8 0, .int .u8 0, .int .u32 0, .int .i64 0, .int .i64 0, .int .i64 0, .int .i64 0, .int .i64 0, .bool false, .int .i64 0, .int .i64 0, .int .i64 0, .int .i64 0, .int .i64 0, .int .i64 0, .slice none 0 0, .int .i64 0, .int .i64 0, .int .i64 0, .bool false, .int .i64 0, .int .i64 0, .int .i64 0, .bool false, .int .i64 0, .int .i64 0, .int .i64 0, .int .i64 0, .int .i64 0, .int .i64 0, .int .i64 0, .bool false, .int .u32 0, .int .u8 0, .int .i64 0, .bool false, .int .u32 0, .int .u32 0, .int .u32 0] 48)) w2.heap.size 48 (PL Sb.Pt.zero none 0 0).toArray := Blk.new _ _ _
 have hs2 := U2.out.size
 go_upto_region 2 with (first | (refine zaf rfl 48 (.tmp 1) (.tmp 16) rfl (w2.heap.size) 0 rfl 48 (PL Sb.Pt.zero none 0 0) BZ (PL Sb.lv0 none 0 0) rfl zah (show 0 + 48 ≤ 48 by decide) rfl (PL Sb.lv0 none 0 0) rfl ?_; intro WA BA OA) | fail)
 have UA := H9 (OA.bel (U2.out.push (Obj.cells #[.int .u8 0, .int .u32 0, .int .u16 0, .int .u32 0, .bool false, .int .i64 0, .int .i64 0, .int .i64 0, .bool false, .int .u8 0, .int .u8 0, .int .u32 0, .int .i64 0, .int .i64 0, .int .i64 0, .int .i64 0, .int .i64 0, .bool false, .int .i64 0, .int .i64 0, .int .i64 0, .int .i64 0, .int .i64 0, .int .i64 0, .slice none 0 0, .int .i64 0, .int .i64 0, .int .i64 0, .bool false, .int .i64 0, .int .i64 0, .int .i64 0, .bool false, .int .i64 0, .int .i64 0, .int .i64 0, .int .i64 0, .int .i64 0, .int .i64 0, .int .i64 0, .bool false, .int .u32 0, .int .u8 0, .int .i64 0, .bool false, .int .u32 0, .int .u32 0, .int .u32 0] 48)) hs2)
 have HBA := H9 BA
 obtain ⟨g1, hg1⟩ : ∃ g, g = w2.heap.size := ⟨_, rfl⟩
 rw [← hg1] at HBA ⊢
 clear BZ BA OA hg1 U2 hs2
 try simp only [Act.put]
 refine zst g1 WA HBA.out zlo (fun _ _ _ _ _ h => h) ?_
 intro wx g3 KA kc B bc A2 n2 c2 u18 u19 u20 u21 u22 u23 u24 HQ HP HB
 replace UA := H9 (UA.out.later HB.out)
 replace HBA := H9 (PB.later HBA.out HB.out)
 obtain ⟨bK, oK, rfl, hlK, x0, x1, x2, x3, x4, x5, x6, x7, x8, x9, x10⟩ := zpo HP.out
 obtain ⟨bP, oP, rfl, y159⟩ := zpp (HP.out.2 _ (List.mem_singleton.2 rfl))
 have q3 := HQ.out.cell 3 _ rfl
 rw [Sb.lv_send.2] at q3
 have HI := H9 (show IntsAt wx wx.heap.size .u8 (some ⟨bP, oP, none⟩) (Sb.flatL 206) from HP.out.2 _ (List.mem_singleton.2 rfl))
 clear HP HB
 go_upto_region 5 with fail
 clear q3 y159
 refine zsu g1 bK oK kc (some ⟨bP, oP, none⟩) bc wx HBA.out x0 x1 x2 x3 x4 x5 x6 x7 x8 x9 x10 HI.out (fun V hV => zlp V _ bc hV) (fun _ _ _ _ _ h => h) ?_
 intro wy g6 SA sc A3 n3 c3 l3 u72 u73 u74 u75 u76 u77 u78 u79 u80 u81 HQ6 HQL hn3 hc3 hm3 HW HB
 replace UA := H9 (UA.out.later HB.out)
 clear x0 x1 x2 x3 x4 x5 x6 x7 x8 x9 x10 HI HB HBA HQ
 go_wp2_with (first | (refine zae rfl 48 (.tmp 6) rfl (g6) 0 rfl 48 (PL Sb.lv1 A3 n3 c3) HQ6.out 48 _ Tryz.underlying48 zah (show 0 + 48 ≤ 48 by decide) (PA Sb.lv1 A3 n3 c3) (by rfl) rfl ?_) | fail)
 refine (zlq _ A3 l3 n3 c3 HQL.out hn3 hc3 hm3 HW.out).mono ?_
 rintro e w9 ⟨A4, n4, c4, l4, SA2, sc2, m, ls, base, rfl, e1, e2, e3, e4, e5, hls, e7, hso, hb9⟩
 rw [Sb.lv_run] at hls
 obtain rfl : m = 1 := by have h1 := congrArg List.length hls; have h2 := hso.len; simp at h1; omega
 have HLS := H9 hls
 have HSD := H9 hso.sds
 replace UA := H9 (UA.out.later hb9)
 clear hls hso hb9 e1 e2 e3 e4 e5 e7 HQL HW hn3 hc3 hm3
 have BZ : Blk (w9.alloc (Obj.cells #[.int .u8 0, .int .u32 0, .int .u16 0, .int .u32 0, .bool false, .int .i64 0, .int .i64 0, .int .i64 0, .bool false, .int .u8 0, .int .u8 0, .int .u32 0, .int .i64 0, .int .i64 0, .int .i64 0, .int .i64 0, .int .i64 0, .bool false, .int .i64 0, .int .i64 0, .int .i64 0, .int .i64 0, .int .i64 0, .int .i64 0, .slice none 0 0, .int .i64 0, .int .i64 0, .int .i64 0, .bool false, .int .i64 0, .int .i64 0, .int .i64 0, .bool false, .int .i64 0, .int .i64 0, .int .i64 0, .int .i64 0, .int .i64 0, .int .i64 0, .int .i64 0, .bool false, .int .u32 0, .int .u8 0, .int .i64 0, .bool false, .int .u32 0, .int .u32 0, .int .u32 0] 48)) w9.heap.size 48 (PL Sb.Pt.zero none 0 0).toArray := Blk.new _ _ _
 have hs2 := UA.out.size
 obtain ⟨q9, hq9⟩ : ∃ q, q = (Sb.run Sb.lv1 140).1 := ⟨_, rfl⟩
 rw [← hq9]
 clear hq9
 go_upto_region 7 with (first | (refine zaf rfl 48 (.tmp 10) (.tmp 85) rfl (w9.heap.size) 0 rfl 48 (PL Sb.Pt.zero none 0 0) BZ (PL q9 A4 n4 c4) rfl zah (show 0 + 48 ≤ 48 by decide) rfl (PL q9 A4 n4 c4) rfl ?_; intro WC BC OC) | fail)
 replace UA := H9 (OC.bel (UA.out.push (Obj.cells #[.int .u8 0, .int .u32 0, .int .u16 0, .int .u32 0, .bool false, .int .i64 0, .int .i64 0, .int .i64 0, .bool false, .int .u8 0, .int .u8 0, .int .u32 0, .int .i64 0, .int .i64 0, .int .i64 0, .int .i64 0, .int .i64 0, .bool false, .int .i64 0, .int .i64 0, .int .i64 0, .int .i64 0, .int .i64 0, .int .i64 0, .slice none 0 0, .int .i64 0, .int .i64 0, .int .i64 0, .bool false, .int .i64 0, .int .i64 0, .int .i64 0, .bool false, .int .i64 0, .int .i64 0, .int .i64 0, .int .i64 0, .int .i64 0, .int .i64 0, .int .i64 0, .bool false, .int .u32 0, .int .u8 0, .int .i64 0, .bool false, .int .u32 0, .int .u32 0, .int .u32 0] 48)) hs2)
 have hszC : w9.heap.size ≤ WC.heap.size := by rw [OC.2]; simp
 replace HSD := H9 ((HSD.out.keep (w' := WC) (fun p hp => (OC.cell (show p.block ≠ w9.heap.size by omega)).trans (World.cell?_alloc_lt _ _ p hp))).more hszC)
 clear BZ BC OC hs2 hszC
 go_wp2_with fail
 refine (zgs 988 _).mono ?_
 rintro e wz ⟨FA, fc, rfl, hI, hbz⟩
 replace UA := H9 (UA.out.later hbz)
 replace HSD := H9 ((HSD.out.later hbz).push (.cells #[.int .i64 140, .slice FA 160 fc, .slice none 0 0] 86))
 have HI := H9 (hI.1.push (.cells #[.int .i64 140, .slice FA 160 fc, .slice none 0 0] 86))
 have HSB := H9 (Sds.one (at_ := 140) (S := FA) (zs := Sb.flatL 988) (c := fc) (by rw [Sb.flatL_len]; exact Blk.new wz 86 #[.int .i64 140, .slice FA 160 fc, .slice none 0 0]) HI.out)
 replace UA := H9 (UA.out.push (.cells #[.int .i64 140, .slice FA 160 fc, .slice none 0 0] 86))
 clear hI hbz HI
 go_wp2_with fail
 refine (zld SA2 (some ⟨wz.heap.size, 0, none⟩) ls [⟨⟨140, Sb.flatL 988, []⟩, FA, fc⟩] 1 sc2 1 (by have h1 := congrArg List.length HLS.out; simpa using h1) (by omega) HLS.out (fun a ha => ?_) _ HSD.out HSB.out).mono ?_
 · have h1 : a.s ∈ ls.map TS.s := List.mem_map_of_mem ha
   rw [HLS.out] at h1
   rw [List.mem_singleton.1 h1]
   show (Sb.flatL 988).length ≤ _
   rw [Sb.flatL_len]; omega
 rintro e wv ⟨rfl, hbv⟩
 have UF := UA.out.later hbv
 go_wp2_with fail
 go_ret
 exact ⟨rfl, UF⟩
end Go.Proofs.YtahbecinkciahaaGreat
namespace Go.Proofs.YtahbecinkciahaaGreat
open Go.RowKit
structure LC (w : World) (p : Sb.Pt) (A : Option Addr) (l : List TW) (n c : Nat) (ZA : Option Addr) (zs : List Int) (codec : Int) : Prop where
 pc : PC w p A l n c
 z : IntsAt w w.heap.size .i16 ZA zs
 zb : Within (-32768) 32767 zs
 c0 : 0 ≤ codec
 c1 : codec ≤ 255
theorem PC.at {w W : World} {p : Sb.Pt} {A : Option Addr} {l : List TW} {n c : Nat} (h : PC w p A l n c) (u : Bel w W) : PC W p A l n c := h.later u
structure LS (w W : World) (p : Sb.Pt) (A : Option Addr) (n c : Nat) (cl cm : Int) : Prop where
 b0 : PB W w.heap.size p A n c
 bc : Blk W (w.heap.size + 1) 37 #[.int .i64 cl, .int .i64 cm]
 u : Bel w W
section
variable {w W W' : World} {p : Sb.Pt} {A : Option Addr} {n c : Nat} {cl cm : Int}
theorem LS.new (w : World) (X : Array Value) (hX : X = PA p A n c) (cl cm : Int) : LS w ((w.alloc (.cells X 48)).alloc (.cells #[.int .i64 cl, .int .i64 cm] 37)) p A n c cl cm := ⟨(PB.new w X hX).push _, Blk.new1 _ _ _ _, ((Bel.refl w).push _).push _⟩
theorem LS.later (h : LS w W p A n c cl cm) (hb : Below W.heap.size W W') : LS w W' p A n c cl cm := ⟨h.b0.later hb, h.bc.later hb, h.u.later hb⟩
theorem LS.lt (h : LS w W p A n c cl cm) : w.heap.size + 1 < W.heap.size := Blk.lt h.bc
theorem PB.keep {g : Nat} (h : PB W g p A n c) (hb : Below W.heap.size W W') : PB W' g p A n c := h.later hb
end
theorem zth (k s l m : Int) : (Sb.new k s l m).1.jt.q = [] := by
 unfold Sb.new Jb.new
 repeat' split
 all_goals rfl
noncomputable def sd3_code : Code := ((Tryz.f5.body.bind (fromReg 3)).getD .skip)
noncomputable def sd7_code : Code := ((Tryz.f5.body.bind (fromReg 7)).getD .skip)
noncomputable def sd11_code : Code := ((Tryz.f5.body.bind (fromReg 11)).getD .skip)
theorem r142 (s : Nat → Value) : ((List.range 142).map s).toArray = #[s 0, s 1, s 2, s 3, s 4, s 5, s 6, s 7, s 8, s 9, s 10, s 11, s 12, s 13, s 14, s 15, s 16, s 17, s 18, s 19, s 20, s 21, s 22, s 23, s 24, s 25, s 26, s 27, s 28, s 29, s 30, s 31, s 32, s 33, s 34, s 35, s 36, s 37, s 38, s 39, s 40, s 41, s 42, s 43, s 44, s 45, s 46, s 47, s 48, s 49, s 50, s 51, s 52, s 53, s 54, s 55, s 56, s 57, s 58, s 59, s 60, s 61, s 62, s 63, s 64, s 65, s 66, s 67, s 68, s 69, s 70, s 71, s 72, s 73, s 74, s 75, s 76, s 77, s 78, s 79, s 80, s 81, s 82, s 83, s 84, s 85, s 86, s 87, s 88, s 89, s 90, s 91, s 92, s 93, s 94, s 95, s 96, s 97, s 98, s 99, s 100, s 101, s 102, s 103, s 104, s 105, s 106, s 107, s 108, s 109, s 110, s 111, s 112, s 113, s 114, s 115, s 116, s 117, s 118, s 119, s 120, s 121, s 122, s 123, s 124, s 125, s 126, s 127, s 128, s 129, s 130, s 131, s 132, s 133, s 134, s 135, s 136, s 137, s 138, s 139, s 140, s 141] := rfl
end Go.Proofs.YtahbecinkciahaaGreat
namespace Go.Proofs.YtahbecinkciahaaGreat
attribute [local go_sem ↓] zac zad
attribute [local go_sem] zab zag
open Go.RowKit
theorem zns {w : World} {p : Sb.Pt} {A : Option Addr} {l : List TW} {n c : Nat} {ZA : Option Addr} {zs : List Int} {zc : Nat} {codec code cl cm : Int} {X : Array Value} (hX : X = PA p A n c) (wf : p.wf) (hq : l.map TW.w = p.jt.q) (hn : l.length = n) (hcap : n ≤ c) (hcm : c ≤ maxLen) (hA : Wts w w.heap.size A l) (hK : ∀ a ∈ l, I64 a.w.m.sq) (hZ : IntsAt w w.heap.size .i16 ZA zs) (hzb : Within (-32768) 32767 zs) (c0 : 0 ≤ codec) (c1 : codec ≤ 255)
 (h : ∀ (W : World) (a : Act), LC w p A l n c ZA zs codec → LS w W p A n c cl cm → Fr 142 [(1, .int .u8 codec), (3, .slice ZA zs.length zc), (4, .int .u8 code), (5, .pointer (some ⟨w.heap.size, 0, none⟩)), (7, .pointer (some ⟨w.heap.size + 1, 0, none⟩))] a → firstWp Tryz.prog sd3_code (bodyPost Tryz.prog Tryz.f5 (fun e w' => e = .returned (.bool true) ∧ Below w.heap.size w w')) a W) : Calls Tryz.prog 5 #[.agg X, .int .u8 codec, .agg #[.int .i64 cl, .int .i64 cm], .slice ZA zs.length zc, .int .u8 code] w (fun e w' => e = .returned (.bool true) ∧ Below w.heap.size w w') := by
 have S := LS.new w X hX cl cm
 obtain ⟨v, hv⟩ : ∃ v, v = decide (l.length ≤ 220 ∧ ∀ a ∈ l, a.w.m.pl.length ≤ 2000) := ⟨_, rfl⟩
 have k1 := H9 fun (W : World) hW => zqj p A l n c (PA p A n c) rfl W hn hW v hv
 have k2 := H9 fun W => zhw W
 have HC := H9 (show v = true → LC w p A l n c ZA zs codec from fun e => by
  rw [e] at hv
  obtain ⟨h1, h2⟩ := of_decide_eq_true hv.symm
  exact ⟨⟨wf, hq, hn, by omega, hcap, hcm, hA, hK, fun a ha => Nat.le_trans (h2 a ha) (by decide)⟩, hZ, hzb, c0, c1⟩)
 have HA := H9 hA
 have hzs0 : (0 : Int) ≤ (zs.length : Int) := by omega
 clear hX hv wf hq hn hcap hcm hA hK hZ hzb c0 c1
 go_enter Tryz.func5, Tryz.ntmps5
 go_upto_region 1 with fail
 change Code.wp _ _ _ _ ((w.alloc (Obj.cells X 48)).alloc (Obj.cells #[.int .i64 cl, .int .i64 cm] 37))
 obtain ⟨W, hW⟩ : ∃ W, W = (w.alloc (Obj.cells X 48)).alloc (Obj.cells #[.int .i64 cl, .int .i64 cm] 37) := ⟨_, rfl⟩
 rw [← hW] at S ⊢
 clear hW
 go_wp2_with (first | (refine zae rfl 48 (.tmp 5) rfl (w.heap.size) 0 rfl 48 (PL p A n c) S.b0 48 _ Tryz.underlying48 zah (show 0 + 48 ≤ 48 by decide) (PA p A n c) (by rfl) rfl ?_) | fail)
 refine (k1.out _ (HA.out.later S.u)).mono ?_
 rintro e w1 ⟨rfl, hb1⟩
 replace S := S.later hb1
 clear hb1 k1
 cases v
 · go_wp2_with fail
   refine (k2.out _).mono ?_
   rintro e w2 ⟨rfl, hb1⟩
   replace S := S.later hb1
   clear hb1
   go_wp2_with fail
   go_ret
   exact ⟨rfl, S.u⟩
 by_cases h4 : 400 < (zs.length : Int)
 · go_wp2_with fail
   refine (k2.out _).mono ?_
   rintro e w2 ⟨rfl, hb1⟩
   replace S := S.later hb1
   clear hb1
   go_wp2_with fail
   go_ret
   exact ⟨rfl, S.u⟩
 replace h4 : (zs.length : Int) ≤ 400 := by omega
 go_upto_region 3 with fail
 refine zcv (by assumption) ?_
 exact h _ _ (by first | exact HC.out rfl | exact HC.out trivial) S (Fr.mk rfl ⟨rfl, rfl, rfl, rfl, rfl, trivial⟩)
theorem zlr (le mo nw : Int) (on : Bool) (ze fi hi dn sp tr : Int) (A : Option Addr) (l : List TW) (n qc : Nat) (la tw pd : Int) (w : World) (hn : l.length = n) (hl : n ≤ 100000) (hA : Wts w w.heap.size A l) (hP : ∀ a ∈ l, a.w.m.pl.length ≤ 1000000000) (v : Bool) (hv : v = decide (Jb.okQ nw hi (l.map TW.w))) : Calls Tryz.prog 128 #[.agg #[.int .i64 le, .int .i64 mo, .int .i64 nw, .bool on, .int .i64 ze, .int .i64 fi, .int .i64 hi, .int .i64 dn, .int .i64 sp, .int .i64 tr, .slice A n qc, .int .i64 la, .int .i64 tw, .int .i64 pd]] w fun e w' => e = .returned (.bool v) ∧ Below w.heap.size w w' := by
 subst hn
 have HA := H9 hA
 have HP := H9 hP
 have HV := H9 hv
 clear hA hP hv
 by_cases h200 : l.length ≤ 200
 rotate_left
 · have hv : v = false := by rw [HV.out, decide_eq_false_iff_not]; intro h; exact h200 (by simpa using h.1)
   subst hv
   have h201 : (200 : Int) < (l.length : Int) := by omega
   go_enter Tryz.func128, Tryz.ntmps128
   go_wp2_with fail
   go_ret
   exact ⟨by first | rfl | simp, (Below.refl _ _).alloc (Nat.le_refl _) _⟩
 have h201 : (l.length : Int) ≤ (200 : Int) := by omega
 go_enter Tryz.func128, Tryz.ntmps128
 go_wp2_with fail
 go_loopg [3] l.length (fun gk i wr => ∃ k : Nat, gk + k = l.length ∧ i = .int .i64 k ∧ Hid (∀ j, j < k → Jb.okAt nw hi (l.map TW.w) j) ∧ Hid (Blk wr w.heap.size 40 #[.int .i64 le, .int .i64 mo, .int .i64 nw, .bool on, .int .i64 ze, .int .i64 fi, .int .i64 hi, .int .i64 dn, .int .i64 sp, .int .i64 tr, .slice A l.length qc, .int .i64 la, .int .i64 tw, .int .i64 pd]) ∧ Hid (Bel w wr))
 case atStart => exact ⟨0, rfl, rfl, H9 (fun j h => absurd h (by omega)), H9 (Blk.new w _ _), H9 ((Bel.refl w).push _)⟩
 case round =>
  obtain ⟨k, hgk, rfl, HT, BS, U⟩ := hrel
  obtain ⟨wo, hwo⟩ : ∃ W, W = wr := ⟨_, rfl⟩
  subst hwo
  have hi0 : (0 : Int) ≤ (k : Int) := by omega
  have hwl := BS.out.lt
  have p2 := BS.out.at 2 _ rfl
  have p6 := BS.out.at 6 _ rfl
  have p10 := BS.out.at 10 _ rfl
  by_cases hk : k < l.length
  rotate_left
  · obtain rfl : k = l.length := by omega
    have hi1 : (l.length : Int) ≤ (l.length : Int) := Int.le_refl _
    have hv : v = true := by rw [HV.out, decide_eq_true_iff]; exact ⟨by simpa using h200, fun j hj => HT.out j (by simpa using hj)⟩
    subst hv
    go_wp2_with fail
    go_ret
    exact ⟨by first | rfl | simp, U.out⟩
  have hi1 : (k : Int) < (l.length : Int) := by omega
  obtain ⟨a, ha⟩ : ∃ a, l[k]? = some a := ⟨_, List.getElem?_eq_getElem hk⟩
  obtain ⟨b, off, rfl, hbB, e0, e1, e2, e3, e4, e5⟩ := zcj (HA.out.1.keep (fun p hp => U.out.cell hp)) ha
  have hpa := HP.out a (List.mem_of_getElem? ha)
  have hm : (l.map TW.w)[k]? = some a.w := by rw [List.getElem?_map, ha]; rfl
  have HN : Hid (¬Jb.okAt nw hi (l.map TW.w) k → v = false) := H9 (fun hnot => by rw [HV.out, decide_eq_false_iff_not]; intro h; exact hnot (h.2 k (by simpa using hk)))
  have HO := H9 (znf nw hi (l.map TW.w) k a.w hm)
  have HMM := H9 hm
  obtain ⟨⟨at0, ⟨sq0, ti0, mk0, ty0, pl0⟩⟩, B0, c0⟩ := a
  simp only at e0 e1 e2 e3 e4 e5 hpa HO HMM
  obtain ⟨fv, hfv⟩ : ∃ fv, fv = decide ((0 ≤ sq0 ∧ sq0 ≤ 281474976710656) ∧ (-281474976710656 ≤ ti0 ∧ ti0 ≤ 281474976710656) ∧ pl0.length ≤ 1500) := ⟨_, rfl⟩
  have k1 := H9 fun W => ziz sq0 ti0 mk0 ty0 B0 pl0.length c0 W hpa fv hfv
  have HF : Hid (fv = decide (Jb.Md.ok ⟨sq0, ti0, mk0, ty0, pl0⟩)) := H9 hfv
  clear ha hm hfv
  have BX := H9 (Blk.new wo 105 #[.int .i64 at0, .int .i64 sq0, .int .i64 ti0, .bool mk0, .int .u8 ty0, .slice B0 pl0.length c0])
  have BS1 := H9 (BS.out.push (.cells #[.int .i64 at0, .int .i64 sq0, .int .i64 ti0, .bool mk0, .int .u8 ty0, .slice B0 pl0.length c0] 105))
  have U1 := H9 (U.out.push (.cells #[.int .i64 at0, .int .i64 sq0, .int .i64 ti0, .bool mk0, .int .u8 ty0, .slice B0 pl0.length c0] 105))
  obtain ⟨wx, hwx⟩ : ∃ W, W = wo.alloc (.cells #[.int .i64 at0, .int .i64 sq0, .int .i64 ti0, .bool mk0, .int .u8 ty0, .slice B0 pl0.length c0] 105) := ⟨_, rfl⟩
  rw [← hwx] at BX BS1 U1
  have HWX := H9 hwx
  clear hwx
  have hxl := BX.out.lt
  have hxs := BS1.out.lt
  have f0 := BX.out.at 0 _ rfl
  have f1 := BX.out.at 1 _ rfl
  have f2 := BX.out.at 2 _ rfl
  have f3 := BX.out.at 3 _ rfl
  have f4 := BX.out.at 4 _ rfl
  have f5 := BX.out.at 5 _ rfl
  have g2 := BS1.out.at 2 _ rfl
  have g6 := BS1.out.at 6 _ rfl
  have g10 := BS1.out.at 10 _ rfl
  have hU : Below wx.heap.size wx wx := Below.refl _ _
  cases fv
  · have hv : v = false := HN.out (fun h => by have h9 := (HO.out.1 h).1; obtain ⟨h1, h2, h3, h4⟩ := h9; have h2' : nw < at0 := h2; have h3' : at0 ≤ 562949953421312 := h3; have h4' : sq0 ≤ hi := h4; have hf := HF.out; rw [eq_comm, decide_eq_false_iff_not] at hf; exact hf h1)
    subst hv
    go_wp2_with fail
    rw [← HWX.out]
    refine wp_region_held_drew (S := fun w' => Below wx.heap.size wx w' ∧ w'.cell? ⟨wo.heap.size, 0, none⟩ = some (.int .i64 at0) ∧ w'.cell? ⟨wo.heap.size, 1, none⟩ = some (.int .i64 sq0) ∧ w'.cell? ⟨wo.heap.size, 2, none⟩ = some (.int .i64 ti0) ∧ w'.cell? ⟨wo.heap.size, 3, none⟩ = some (.bool mk0) ∧ w'.cell? ⟨wo.heap.size, 4, none⟩ = some (.int .u8 ty0) ∧ w'.cell? ⟨wo.heap.size, 5, none⟩ = some (.slice B0 pl0.length c0) ∧ w'.cell? ⟨w.heap.size, 2, none⟩ = some (.int .i64 nw) ∧ w'.cell? ⟨w.heap.size, 6, none⟩ = some (.int .i64 hi) ∧ w'.cell? ⟨w.heap.size, 10, none⟩ = some (.slice (some ⟨b, off, none⟩) l.length qc)) (by kernel_rfl) ?_ (fun qH => ?_)
    · (first | assumption | ((try go_split_ands); refine zay ?_ (fun hbX => ⟨zaa hbX f0, zaa hbX f1, zaa hbX f2, zaa hbX f3, zaa hbX f4, zaa hbX f5, zaa hbX g2, zaa hbX g6, zaa hbX g10⟩); (with_reducible repeat first | assumption | exact zaj (by assumption) (by assumption) | refine Below.drew ?_ | refine zak ?_ _)))
    iterate 2
     first
      | (refine tkN 39 (v := ?_) rfl rfl (Or.inl ⟨by rfl, ?_⟩) (by assumption) ?_
         rotate_left
         · (intro w hSw; (try dsimp only at hSw); go_simp; try with_reducible rfl))
      | refine tkN 39 (v := undef) rfl rfl (Or.inr ⟨by rfl, rfl⟩) (by assumption) ?_
     try simp only [ss9]
    refine wpAnyH_ready (rs := [2]) (by kernel_rfl) (by simp) ?_
    refine AllReadyH.cons (o := _) rfl (fun K hK => ?_) ?_
    rotate_left
    · exact AllReadyH.nil
    go_simp
    (go_at_call 118; refine (k1.out _).mono ?_; rintro e w' ⟨rfl, qb⟩; have hbw : Below wx.heap.size wx w' := zaj qb (by (try go_split_ands); assumption); obtain ⟨hcc, hff⟩ := zeb qb)
    refine hK.out _ _ ?_ (fun qH => ?_)
    · (try dsimp only)
      (first | assumption | ((try go_split_ands); refine zay ?_ (fun hbX => ⟨zaa hbX f0, zaa hbX f1, zaa hbX f2, zaa hbX f3, zaa hbX f4, zaa hbX f5, zaa hbX g2, zaa hbX g6, zaa hbX g10⟩); (with_reducible repeat first | assumption | exact zaj (by assumption) (by assumption) | refine Below.drew ?_ | refine zak ?_ _)))
    clear hK K
    try simp only [ss9]
    iterate 36
     first
      | (refine tkN 39 (v := ?_) rfl rfl (Or.inl ⟨by rfl, ?_⟩) (by assumption) ?_
         rotate_left
         · (intro w hSw; (try dsimp only at hSw); go_simp; try with_reducible rfl))
      | refine tkN 39 (v := undef) rfl rfl (Or.inr ⟨by rfl, rfl⟩) (by assumption) ?_
     try simp only [ss9]
    refine wpAnyH_done (by kernel_rfl) ?_ _
    all_goals
     have UZ := H9 (U1.out.later hbw)
     go_wp2_with fail
     go_ret
     exact ⟨by first | rfl | simp, UZ.out⟩
  have hok : Jb.Md.ok ⟨sq0, ti0, mk0, ty0, pl0⟩ := by have hf := HF.out; rw [eq_comm, decide_eq_true_iff] at hf; exact hf
  have HOK := H9 hok
  clear hok HF
  by_cases c1 : at0 ≤ nw
  · have hdc1 : decide (at0 ≤ nw) = true := by simpa using c1
    have Dc1 := H9 hdc1
    clear hdc1
    have hv : v = false := HN.out (fun h => by have h9 := (HO.out.1 h).1; obtain ⟨h1, h2, h3, h4⟩ := h9; have h2' : nw < at0 := h2; have h3' : at0 ≤ 562949953421312 := h3; have h4' : sq0 ≤ hi := h4; omega)
    subst hv
    go_wp2_with fail
    rw [← HWX.out]
    refine wp_region_held_drew (S := fun w' => Below wx.heap.size wx w' ∧ w'.cell? ⟨wo.heap.size, 0, none⟩ = some (.int .i64 at0) ∧ w'.cell? ⟨wo.heap.size, 1, none⟩ = some (.int .i64 sq0) ∧ w'.cell? ⟨wo.heap.size, 2, none⟩ = some (.int .i64 ti0) ∧ w'.cell? ⟨wo.heap.size, 3, none⟩ = some (.bool mk0) ∧ w'.cell? ⟨wo.heap.size, 4, none⟩ = some (.int .u8 ty0) ∧ w'.cell? ⟨wo.heap.size, 5, none⟩ = some (.slice B0 pl0.length c0) ∧ w'.cell? ⟨w.heap.size, 2, none⟩ = some (.int .i64 nw) ∧ w'.cell? ⟨w.heap.size, 6, none⟩ = some (.int .i64 hi) ∧ w'.cell? ⟨w.heap.size, 10, none⟩ = some (.slice (some ⟨b, off, none⟩) l.length qc)) (by kernel_rfl) ?_ (fun qH => ?_)
    · (first | assumption | ((try go_split_ands); refine zay ?_ (fun hbX => ⟨zaa hbX f0, zaa hbX f1, zaa hbX f2, zaa hbX f3, zaa hbX f4, zaa hbX f5, zaa hbX g2, zaa hbX g6, zaa hbX g10⟩); (with_reducible repeat first | assumption | exact zaj (by assumption) (by assumption) | refine Below.drew ?_ | refine zak ?_ _)))
    iterate 2
     first
      | (refine tkN 39 (v := ?_) rfl rfl (Or.inl ⟨by rfl, ?_⟩) (by assumption) ?_
         rotate_left
         · (intro w hSw; (try dsimp only at hSw); go_simp; try with_reducible rfl))
      | refine tkN 39 (v := undef) rfl rfl (Or.inr ⟨by rfl, rfl⟩) (by assumption) ?_
     try simp only [List.getElem_toArray, List.getElem_cons_zero, List.getElem_cons_succ, Act.put, List.setIfInBounds_toArray, List.set_cons_zero, List.set_cons_succ, Dc1.out]
    refine wpAnyH_ready (rs := [2]) (by kernel_rfl) (by simp) ?_
    refine AllReadyH.cons (o := _) rfl (fun K hK => ?_) ?_
    rotate_left
    · exact AllReadyH.nil
    go_simp
    (go_at_call 118; refine (k1.out _).mono ?_; rintro e w' ⟨rfl, qb⟩; have hbw : Below wx.heap.size wx w' := zaj qb (by (try go_split_ands); assumption); obtain ⟨hcc, hff⟩ := zeb qb)
    refine hK.out _ _ ?_ (fun qH => ?_)
    · (try dsimp only)
      (first | assumption | ((try go_split_ands); refine zay ?_ (fun hbX => ⟨zaa hbX f0, zaa hbX f1, zaa hbX f2, zaa hbX f3, zaa hbX f4, zaa hbX f5, zaa hbX g2, zaa hbX g6, zaa hbX g10⟩); (with_reducible repeat first | assumption | exact zaj (by assumption) (by assumption) | refine Below.drew ?_ | refine zak ?_ _)))
    clear hK K
    try simp only [List.getElem_toArray, List.getElem_cons_zero, List.getElem_cons_succ, Act.put, List.setIfInBounds_toArray, List.set_cons_zero, List.set_cons_succ, Dc1.out]
    iterate 36
     first
      | (refine tkN 39 (v := ?_) rfl rfl (Or.inl ⟨by rfl, ?_⟩) (by assumption) ?_
         rotate_left
         · (intro w hSw; (try dsimp only at hSw); go_simp; try with_reducible rfl))
      | refine tkN 39 (v := undef) rfl rfl (Or.inr ⟨by rfl, rfl⟩) (by assumption) ?_
     try simp only [List.getElem_toArray, List.getElem_cons_zero, List.getElem_cons_succ, Act.put, List.setIfInBounds_toArray, List.set_cons_zero, List.set_cons_succ, Dc1.out]
    refine wpAnyH_done (by kernel_rfl) ?_ _
    all_goals
     have UZ := H9 (U1.out.later hbw)
     go_wp2_with fail
     go_ret
     exact ⟨by first | rfl | simp, UZ.out⟩
  have c1' : nw < at0 := by omega
  have hdc1 : decide (at0 ≤ nw) = false := by rw [decide_eq_false_iff_not]; omega
  have Dc1 := H9 hdc1
  clear c1 hdc1
  by_cases c2 : 562949953421312 < at0
  · have hdc2 : decide (562949953421312 < at0) = true := by simpa using c2
    have Dc2 := H9 hdc2
    clear hdc2
    have hv : v = false := HN.out (fun h => by have h9 := (HO.out.1 h).1; obtain ⟨h1, h2, h3, h4⟩ := h9; have h2' : nw < at0 := h2; have h3' : at0 ≤ 562949953421312 := h3; have h4' : sq0 ≤ hi := h4; omega)
    subst hv
    go_wp2_with fail
    rw [← HWX.out]
    refine wp_region_held_drew (S := fun w' => Below wx.heap.size wx w' ∧ w'.cell? ⟨wo.heap.size, 0, none⟩ = some (.int .i64 at0) ∧ w'.cell? ⟨wo.heap.size, 1, none⟩ = some (.int .i64 sq0) ∧ w'.cell? ⟨wo.heap.size, 2, none⟩ = some (.int .i64 ti0) ∧ w'.cell? ⟨wo.heap.size, 3, none⟩ = some (.bool mk0) ∧ w'.cell? ⟨wo.heap.size, 4, none⟩ = some (.int .u8 ty0) ∧ w'.cell? ⟨wo.heap.size, 5, none⟩ = some (.slice B0 pl0.length c0) ∧ w'.cell? ⟨w.heap.size, 2, none⟩ = some (.int .i64 nw) ∧ w'.cell? ⟨w.heap.size, 6, none⟩ = some (.int .i64 hi) ∧ w'.cell? ⟨w.heap.size, 10, none⟩ = some (.slice (some ⟨b, off, none⟩) l.length qc)) (by kernel_rfl) ?_ (fun qH => ?_)
    · (first | assumption | ((try go_split_ands); refine zay ?_ (fun hbX => ⟨zaa hbX f0, zaa hbX f1, zaa hbX f2, zaa hbX f3, zaa hbX f4, zaa hbX f5, zaa hbX g2, zaa hbX g6, zaa hbX g10⟩); (with_reducible repeat first | assumption | exact zaj (by assumption) (by assumption) | refine Below.drew ?_ | refine zak ?_ _)))
    iterate 2
     first
      | (refine tkN 39 (v := ?_) rfl rfl (Or.inl ⟨by rfl, ?_⟩) (by assumption) ?_
         rotate_left
         · (intro w hSw; (try dsimp only at hSw); go_simp; try with_reducible rfl))
      | refine tkN 39 (v := undef) rfl rfl (Or.inr ⟨by rfl, rfl⟩) (by assumption) ?_
     try simp only [List.getElem_toArray, List.getElem_cons_zero, List.getElem_cons_succ, Act.put, List.setIfInBounds_toArray, List.set_cons_zero, List.set_cons_succ, Dc1.out, Dc2.out]
    refine wpAnyH_ready (rs := [2]) (by kernel_rfl) (by simp) ?_
    refine AllReadyH.cons (o := _) rfl (fun K hK => ?_) ?_
    rotate_left
    · exact AllReadyH.nil
    go_simp
    (go_at_call 118; refine (k1.out _).mono ?_; rintro e w' ⟨rfl, qb⟩; have hbw : Below wx.heap.size wx w' := zaj qb (by (try go_split_ands); assumption); obtain ⟨hcc, hff⟩ := zeb qb)
    refine hK.out _ _ ?_ (fun qH => ?_)
    · (try dsimp only)
      (first | assumption | ((try go_split_ands); refine zay ?_ (fun hbX => ⟨zaa hbX f0, zaa hbX f1, zaa hbX f2, zaa hbX f3, zaa hbX f4, zaa hbX f5, zaa hbX g2, zaa hbX g6, zaa hbX g10⟩); (with_reducible repeat first | assumption | exact zaj (by assumption) (by assumption) | refine Below.drew ?_ | refine zak ?_ _)))
    clear hK K
    try simp only [List.getElem_toArray, List.getElem_cons_zero, List.getElem_cons_succ, Act.put, List.setIfInBounds_toArray, List.set_cons_zero, List.set_cons_succ, Dc1.out, Dc2.out]
    iterate 36
     first
      | (refine tkN 39 (v := ?_) rfl rfl (Or.inl ⟨by rfl, ?_⟩) (by assumption) ?_
         rotate_left
         · (intro w hSw; (try dsimp only at hSw); go_simp; try with_reducible rfl))
      | refine tkN 39 (v := undef) rfl rfl (Or.inr ⟨by rfl, rfl⟩) (by assumption) ?_
     try simp only [List.getElem_toArray, List.getElem_cons_zero, List.getElem_cons_succ, Act.put, List.setIfInBounds_toArray, List.set_cons_zero, List.set_cons_succ, Dc1.out, Dc2.out]
    refine wpAnyH_done (by kernel_rfl) ?_ _
    all_goals
     have UZ := H9 (U1.out.later hbw)
     go_wp2_with fail
     go_ret
     exact ⟨by first | rfl | simp, UZ.out⟩
  have c2' : at0 ≤ 562949953421312 := by omega
  have hdc2 : decide (562949953421312 < at0) = false := by rw [decide_eq_false_iff_not]; omega
  have Dc2 := H9 hdc2
  clear c2 hdc2
  by_cases c3 : hi < sq0
  · have hdc3 : decide (hi < sq0) = true := by simpa using c3
    have Dc3 := H9 hdc3
    clear hdc3
    have hv : v = false := HN.out (fun h => by have h9 := (HO.out.1 h).1; obtain ⟨h1, h2, h3, h4⟩ := h9; have h2' : nw < at0 := h2; have h3' : at0 ≤ 562949953421312 := h3; have h4' : sq0 ≤ hi := h4; omega)
    subst hv
    go_wp2_with fail
    rw [← HWX.out]
    refine wp_region_held_drew (S := fun w' => Below wx.heap.size wx w' ∧ w'.cell? ⟨wo.heap.size, 0, none⟩ = some (.int .i64 at0) ∧ w'.cell? ⟨wo.heap.size, 1, none⟩ = some (.int .i64 sq0) ∧ w'.cell? ⟨wo.heap.size, 2, none⟩ = some (.int .i64 ti0) ∧ w'.cell? ⟨wo.heap.size, 3, none⟩ = some (.bool mk0) ∧ w'.cell? ⟨wo.heap.size, 4, none⟩ = some (.int .u8 ty0) ∧ w'.cell? ⟨wo.heap.size, 5, none⟩ = some (.slice B0 pl0.length c0) ∧ w'.cell? ⟨w.heap.size, 2, none⟩ = some (.int .i64 nw) ∧ w'.cell? ⟨w.heap.size, 6, none⟩ = some (.int .i64 hi) ∧ w'.cell? ⟨w.heap.size, 10, none⟩ = some (.slice (some ⟨b, off, none⟩) l.length qc)) (by kernel_rfl) ?_ (fun qH => ?_)
    · (first | assumption | ((try go_split_ands); refine zay ?_ (fun hbX => ⟨zaa hbX f0, zaa hbX f1, zaa hbX f2, zaa hbX f3, zaa hbX f4, zaa hbX f5, zaa hbX g2, zaa hbX g6, zaa hbX g10⟩); (with_reducible repeat first | assumption | exact zaj (by assumption) (by assumption) | refine Below.drew ?_ | refine zak ?_ _)))
    iterate 2
     first
      | (refine tkN 39 (v := ?_) rfl rfl (Or.inl ⟨by rfl, ?_⟩) (by assumption) ?_
         rotate_left
         · (intro w hSw; (try dsimp only at hSw); go_simp; try with_reducible rfl))
      | refine tkN 39 (v := undef) rfl rfl (Or.inr ⟨by rfl, rfl⟩) (by assumption) ?_
     try simp only [List.getElem_toArray, List.getElem_cons_zero, List.getElem_cons_succ, Act.put, List.setIfInBounds_toArray, List.set_cons_zero, List.set_cons_succ, Dc1.out, Dc2.out, Dc3.out]
    refine wpAnyH_ready (rs := [2]) (by kernel_rfl) (by simp) ?_
    refine AllReadyH.cons (o := _) rfl (fun K hK => ?_) ?_
    rotate_left
    · exact AllReadyH.nil
    go_simp
    (go_at_call 118; refine (k1.out _).mono ?_; rintro e w' ⟨rfl, qb⟩; have hbw : Below wx.heap.size wx w' := zaj qb (by (try go_split_ands); assumption); obtain ⟨hcc, hff⟩ := zeb qb)
    refine hK.out _ _ ?_ (fun qH => ?_)
    · (try dsimp only)
      (first | assumption | ((try go_split_ands); refine zay ?_ (fun hbX => ⟨zaa hbX f0, zaa hbX f1, zaa hbX f2, zaa hbX f3, zaa hbX f4, zaa hbX f5, zaa hbX g2, zaa hbX g6, zaa hbX g10⟩); (with_reducible repeat first | assumption | exact zaj (by assumption) (by assumption) | refine Below.drew ?_ | refine zak ?_ _)))
    clear hK K
    try simp only [List.getElem_toArray, List.getElem_cons_zero, List.getElem_cons_succ, Act.put, List.setIfInBounds_toArray, List.set_cons_zero, List.set_cons_succ, Dc1.out, Dc2.out, Dc3.out]
    iterate 36
     first
      | (refine tkN 39 (v := ?_) rfl rfl (Or.inl ⟨by rfl, ?_⟩) (by assumption) ?_
         rotate_left
         · (intro w hSw; (try dsimp only at hSw); go_simp; try with_reducible rfl))
      | refine tkN 39 (v := undef) rfl rfl (Or.inr ⟨by rfl, rfl⟩) (by assumption) ?_
     try simp only [List.getElem_toArray, List.getElem_cons_zero, List.getElem_cons_succ, Act.put, List.setIfInBounds_toArray, List.set_cons_zero, List.set_cons_succ, Dc1.out, Dc2.out, Dc3.out]
    refine wpAnyH_done (by kernel_rfl) ?_ _
    all_goals
     have UZ := H9 (U1.out.later hbw)
     go_wp2_with fail
     go_ret
     exact ⟨by first | rfl | simp, UZ.out⟩
  have c3' : sq0 ≤ hi := by omega
  have hdc3 : decide (hi < sq0) = false := by rw [decide_eq_false_iff_not]; omega
  have Dc3 := H9 hdc3
  clear c3 hdc3
  by_cases hk0 : k = 0
  · have HK0 := H9 hk0
    have hd1 : decide ((0 : Int) < (k : Int)) = false := by rw [decide_eq_false_iff_not]; omega
    have HD1 := H9 hd1
    have hd1n : decide (0 < k) = false := by rw [decide_eq_false_iff_not]; omega
    have HD1N := H9 hd1n
    clear hd1 hd1n
    have hd3 : (k : Int) ≤ 0 := by omega
    clear hk0
    go_wp2_with fail
    rw [← HWX.out]
    refine wp_region_held_drew (S := fun w' => Below wx.heap.size wx w' ∧ w'.cell? ⟨wo.heap.size, 0, none⟩ = some (.int .i64 at0) ∧ w'.cell? ⟨wo.heap.size, 1, none⟩ = some (.int .i64 sq0) ∧ w'.cell? ⟨wo.heap.size, 2, none⟩ = some (.int .i64 ti0) ∧ w'.cell? ⟨wo.heap.size, 3, none⟩ = some (.bool mk0) ∧ w'.cell? ⟨wo.heap.size, 4, none⟩ = some (.int .u8 ty0) ∧ w'.cell? ⟨wo.heap.size, 5, none⟩ = some (.slice B0 pl0.length c0) ∧ w'.cell? ⟨w.heap.size, 2, none⟩ = some (.int .i64 nw) ∧ w'.cell? ⟨w.heap.size, 6, none⟩ = some (.int .i64 hi) ∧ w'.cell? ⟨w.heap.size, 10, none⟩ = some (.slice (some ⟨b, off, none⟩) l.length qc)) (by kernel_rfl) ?_ (fun qH => ?_)
    · (first | assumption | ((try go_split_ands); refine zay ?_ (fun hbX => ⟨zaa hbX f0, zaa hbX f1, zaa hbX f2, zaa hbX f3, zaa hbX f4, zaa hbX f5, zaa hbX g2, zaa hbX g6, zaa hbX g10⟩); (with_reducible repeat first | assumption | exact zaj (by assumption) (by assumption) | refine Below.drew ?_ | refine zak ?_ _)))
    iterate 2
     first
      | (refine tkN 39 (v := ?_) rfl rfl (Or.inl ⟨by rfl, ?_⟩) (by assumption) ?_
         rotate_left
         · (intro w hSw; (try dsimp only at hSw); go_simp; try with_reducible rfl))
      | refine tkN 39 (v := undef) rfl rfl (Or.inr ⟨by rfl, rfl⟩) (by assumption) ?_
     try simp only [List.getElem_toArray, List.getElem_cons_zero, List.getElem_cons_succ, Act.put, List.setIfInBounds_toArray, List.set_cons_zero, List.set_cons_succ, Dc1.out, Dc2.out, Dc3.out, HD1.out, HD1N.out]
    refine wpAnyH_ready (rs := [2]) (by kernel_rfl) (by simp) ?_
    refine AllReadyH.cons (o := _) rfl (fun K hK => ?_) ?_
    rotate_left
    · exact AllReadyH.nil
    go_simp
    (go_at_call 118; refine (k1.out _).mono ?_; rintro e w' ⟨rfl, qb⟩; have hbw : Below wx.heap.size wx w' := zaj qb (by (try go_split_ands); assumption); obtain ⟨hcc, hff⟩ := zeb qb)
    refine hK.out _ _ ?_ (fun qH => ?_)
    · (try dsimp only)
      (first | assumption | ((try go_split_ands); refine zay ?_ (fun hbX => ⟨zaa hbX f0, zaa hbX f1, zaa hbX f2, zaa hbX f3, zaa hbX f4, zaa hbX f5, zaa hbX g2, zaa hbX g6, zaa hbX g10⟩); (with_reducible repeat first | assumption | exact zaj (by assumption) (by assumption) | refine Below.drew ?_ | refine zak ?_ _)))
    clear hK K
    try simp only [List.getElem_toArray, List.getElem_cons_zero, List.getElem_cons_succ, Act.put, List.setIfInBounds_toArray, List.set_cons_zero, List.set_cons_succ, Dc1.out, Dc2.out, Dc3.out, HD1.out, HD1N.out]
    iterate 36
     first
      | (refine tkN 39 (v := ?_) rfl rfl (Or.inl ⟨by rfl, ?_⟩) (by assumption) ?_
         rotate_left
         · (intro w hSw; (try dsimp only at hSw); go_simp; try with_reducible rfl))
      | refine tkN 39 (v := undef) rfl rfl (Or.inr ⟨by rfl, rfl⟩) (by assumption) ?_
     try simp only [List.getElem_toArray, List.getElem_cons_zero, List.getElem_cons_succ, Act.put, List.setIfInBounds_toArray, List.set_cons_zero, List.set_cons_succ, Dc1.out, Dc2.out, Dc3.out, HD1.out, HD1N.out]
    refine wpAnyH_done (by kernel_rfl) ?_ _
    all_goals
     have HBF : Hid (0 < k → Jb.bef ((l.map TW.w).getD (k - 1) Jb.Wt.zero) ⟨at0, ⟨sq0, ti0, mk0, ty0, pl0⟩⟩) := H9 (fun h => by have h8 := HK0.out; omega)
     obtain ⟨g0, hg0⟩ : ∃ g0, g0 = gk := ⟨_, rfl⟩
     subst hg0
     have BXZ := H9 (BX.out.later hbw)
     have BSZ := H9 (BS1.out.later hbw)
     have UZ := H9 (U1.out.later hbw)
     clear hcc hff hbw qb f0 f1 f2 f3 f4 f5 g2 g6 g10 hU
     go_wp2_with fail
     go_loopg [5] k (fun gj j wr => ∃ y : Nat, gj + y = k ∧ j = .int .i64 y ∧ Hid (∀ i, i < y → ((l.map TW.w).getD i Jb.Wt.zero).m.sq ≠ sq0) ∧ Hid (Blk wr w.heap.size 40 #[.int .i64 le, .int .i64 mo, .int .i64 nw, .bool on, .int .i64 ze, .int .i64 fi, .int .i64 hi, .int .i64 dn, .int .i64 sp, .int .i64 tr, .slice (some ⟨b, off, none⟩) l.length qc, .int .i64 la, .int .i64 tw, .int .i64 pd]) ∧ Hid (Blk wr wo.heap.size 105 #[.int .i64 at0, .int .i64 sq0, .int .i64 ti0, .bool mk0, .int .u8 ty0, .slice B0 pl0.length c0]) ∧ Hid (Bel w wr))
     case atStart => exact ⟨0, by omega, rfl, H9 (fun i h => absurd h (by omega)), BSZ, BXZ, UZ⟩
     case round =>
      obtain ⟨y, hhm, rfl, HD, BS2, BX2, U2⟩ := hrel
      have hm0 : (0 : Int) ≤ (y : Int) := by omega
      have u1 := BX2.out.at 1 _ rfl
      have u10 := BS2.out.at 10 _ rfl
      by_cases hmk : y < k
      rotate_left
      · obtain rfl : y = k := by omega
        have hmm : (y : Int) ≤ (y : Int) := Int.le_refl _
        go_wp2_with fail
        go_roundg (g0 - 1)
        case measure => omega
        case rel =>
         refine ⟨y + 1, by omega, by go_num, H9 (fun j hj => ?_), BS2, U2⟩
         by_cases hj2 : j < y
         · exact HT.out j hj2
         · obtain rfl : j = y := by omega
           refine HO.out.2 ⟨⟨HOK.out, c1', c2', c3'⟩, ?_, HBF.out⟩
           rw [List.any_eq_false]
           intro x hx
           obtain ⟨yy, hy, rfl⟩ := List.mem_map.1 hx
           obtain ⟨i, hi', rfl⟩ := List.getElem_of_mem hy
           have hik : i < j := by simp at hi'; omega
           have h9 := HD.out i hik
           rw [Jb.getD_eq (by simp; omega)] at h9
           rw [List.getElem_take]
           simpa using h9
      have hmk1 : (y : Int) < (k : Int) := by omega
      have hml : (y : Int) < (l.length : Int) := by omega
      obtain ⟨a8, ha8⟩ : ∃ a, l[y]? = some a := ⟨_, List.getElem?_eq_getElem (by omega)⟩
      obtain ⟨b8, off8, he8, hb8, z0, z1, z2, z3, z4, z5⟩ := zcj (HA.out.1.keep (fun p hp => U2.out.cell hp)) ha8
      injection he8 with he8
      injection he8 with he8a he8b
      subst he8a he8b
      have hm8 : (l.map TW.w)[y]? = some a8.w := by rw [List.getElem?_map, ha8]; rfl
      have HM8 := H9 hm8
      obtain ⟨sq8, hsq8⟩ : ∃ x, x = a8.w.m.sq := ⟨_, rfl⟩
      rw [← hsq8] at z1
      have HSQ8 := H9 hsq8
      clear ha8 hm8 hsq8 z0 z2 z3 z4 z5
      by_cases heq : sq8 = sq0
      · have hee : (sq8 == sq0) = true := by simpa using heq
        have hv : v = false := HN.out (fun h => by
         have h9 := (HO.out.1 h).2.1
         rw [List.any_eq_false] at h9
         exact h9 sq8 (List.mem_map.2 ⟨a8.w, List.mem_of_getElem? (i := y) (by rw [List.getElem?_take, if_pos (by omega)]; exact HM8.out), HSQ8.out.symm⟩) hee)
        subst hv
        clear heq
        go_wp2_with fail
        go_quiet (fail)
        go_wp2_with fail
        go_ret
        exact ⟨by first | rfl | simp, U2.out.drewN _⟩
      have hee : (sq8 == sq0) = false := by simpa using heq
      have HNE := H9 heq
      clear heq
      go_wp2_with fail
      go_quiet (fail)
      go_wp2_with fail
      go_roundg (gk - 1)
      case measure => omega
      case rel =>
       refine ⟨y + 1, by omega, by go_num, H9 (fun i hi2 => ?_), H9 (BS2.out.drewN _), H9 (BX2.out.drewN _), H9 (U2.out.drewN _)⟩
       by_cases hi3 : i < y
       · exact HD.out i hi3
       · obtain rfl : i = y := by omega
         have h9 := HM8.out
         rw [List.getD_eq_getElem?_getD, h9]
         show a8.w.m.sq ≠ sq0
         rw [← HSQ8.out]
         exact HNE.out
  obtain ⟨m, hkm⟩ : ∃ m, k = m + 1 := ⟨k - 1, by omega⟩
  have hkp : (0 : Int) < (k : Int) := by omega
  have hkd : decide ((0 : Int) < (k : Int)) = true := by rw [decide_eq_true_iff]; exact hkp
  have HKD := H9 hkd
  have hkdn : decide (0 < k) = true := by rw [decide_eq_true_iff]; omega
  have HKDN := H9 hkdn
  clear hk0 hkd hkdn
  obtain ⟨a9, ha9⟩ : ∃ a, l[m]? = some a := ⟨_, List.getElem?_eq_getElem (by omega)⟩
  obtain ⟨b9, off9, he9, hbB9, q0, q1, q2, q3, q4, q5⟩ := zcj (HA.out.1.keep (fun p hp => U1.out.cell hp)) ha9
  injection he9 with he9
  injection he9 with he9a he9b
  subst he9a he9b
  have hm9 : (l.map TW.w)[m]? = some a9.w := by rw [List.getElem?_map, ha9]; rfl
  have HM9 := H9 hm9
  obtain ⟨⟨at9, ⟨sq9, ti9, mk9, ty9, pl9⟩⟩, B9, c9⟩ := a9
  simp only at q0 q1 q2 q3 q4 q5 HM9
  clear ha9 hm9
  obtain ⟨bv, hbv⟩ : ∃ bv, bv = decide (at9 < at0 ∨ (at9 = at0 ∧ sq9 < sq0)) := ⟨_, rfl⟩
  have k2 := H9 fun W => zmb at9 sq9 ti9 ty9 at0 sq0 ti0 ty0 mk9 mk0 B9 B0 pl9.length c9 pl0.length c0 W bv hbv
  have hgd : (l.map TW.w).getD (k - 1) Jb.Wt.zero = ⟨at9, ⟨sq9, ti9, mk9, ty9, pl9⟩⟩ := by rw [hkm, Nat.add_sub_cancel]; simp [List.getD_eq_getElem?_getD, HM9.out]
  have HGD := H9 hgd
  have HBV := H9 hbv
  have hm1 : (m : Int) < (l.length : Int) := by omega
  have hm0 : (0 : Int) ≤ (m : Int) := by omega
  have hw2 : IntKind.i64.wrap ((k : Int) - 1) = (m : Int) := by rw [zam _ (by omega) (by omega)]; omega
  have hw3 : (k : Int) - 1 = (m : Int) := by omega
  have hw4 : IntKind.i64.wrap (m : Int) = (m : Int) := zam _ (by omega) (by omega)
  have hm2 : m < l.length := by omega
  have hmk9 : m + 1 = k := hkm.symm
  have HKM := H9 hkm
  clear hgd hbv hkm hmk9
  cases bv
  · have hv : v = false := HN.out (fun h => by
     have h9 := (HO.out.1 h).2.2 (by have h7 := HKM.out; omega)
     rw [HGD.out] at h9
     have h8 := HBV.out
     rw [eq_comm, decide_eq_false_iff_not] at h8
     exact h8 h9)
    subst hv
    go_wp2_with fail
    rw [← HWX.out]
    refine wp_region_held_drew (S := fun w' => Below wx.heap.size wx w' ∧ w'.cell? ⟨wo.heap.size, 0, none⟩ = some (.int .i64 at0) ∧ w'.cell? ⟨wo.heap.size, 1, none⟩ = some (.int .i64 sq0) ∧ w'.cell? ⟨wo.heap.size, 2, none⟩ = some (.int .i64 ti0) ∧ w'.cell? ⟨wo.heap.size, 3, none⟩ = some (.bool mk0) ∧ w'.cell? ⟨wo.heap.size, 4, none⟩ = some (.int .u8 ty0) ∧ w'.cell? ⟨wo.heap.size, 5, none⟩ = some (.slice B0 pl0.length c0) ∧ w'.cell? ⟨w.heap.size, 2, none⟩ = some (.int .i64 nw) ∧ w'.cell? ⟨w.heap.size, 6, none⟩ = some (.int .i64 hi) ∧ w'.cell? ⟨w.heap.size, 10, none⟩ = some (.slice (some ⟨b, off, none⟩) l.length qc) ∧ w'.cell? ⟨b, off + m * 6, none⟩ = some (.int .i64 at9) ∧ w'.cell? ⟨b, off + m * 6 + 1, none⟩ = some (.int .i64 sq9) ∧ w'.cell? ⟨b, off + m * 6 + 2, none⟩ = some (.int .i64 ti9) ∧ w'.cell? ⟨b, off + m * 6 + 3, none⟩ = some (.bool mk9) ∧ w'.cell? ⟨b, off + m * 6 + 4, none⟩ = some (.int .u8 ty9) ∧ w'.cell? ⟨b, off + m * 6 + 5, none⟩ = some (.slice B9 pl9.length c9)) (by kernel_rfl) ?_ (fun qH => ?_)
    · (first | assumption | ((try go_split_ands); refine zay ?_ (fun hbX => ⟨zaa hbX f0, zaa hbX f1, zaa hbX f2, zaa hbX f3, zaa hbX f4, zaa hbX f5, zaa hbX g2, zaa hbX g6, zaa hbX g10, zaa hbX q0, zaa hbX q1, zaa hbX q2, zaa hbX q3, zaa hbX q4, zaa hbX q5⟩); (with_reducible repeat first | assumption | exact zaj (by assumption) (by assumption) | refine Below.drew ?_ | refine zak ?_ _)))
    iterate 2
     first
      | (refine tkN 39 (v := ?_) rfl rfl (Or.inl ⟨by rfl, ?_⟩) (by assumption) ?_
         rotate_left
         · (intro w hSw; (try dsimp only at hSw); go_simp; try with_reducible rfl))
      | refine tkN 39 (v := undef) rfl rfl (Or.inr ⟨by rfl, rfl⟩) (by assumption) ?_
     try simp only [List.getElem_toArray, List.getElem_cons_zero, List.getElem_cons_succ, Act.put, List.setIfInBounds_toArray, List.set_cons_zero, List.set_cons_succ, Dc1.out, Dc2.out, Dc3.out, HKD.out, HKDN.out]
    refine wpAnyH_ready (rs := [2]) (by kernel_rfl) (by simp) ?_
    refine AllReadyH.cons (o := _) rfl (fun K hK => ?_) ?_
    rotate_left
    · exact AllReadyH.nil
    go_simp
    (go_at_call 118; refine (k1.out _).mono ?_; rintro e w' ⟨rfl, qb⟩; have hbw : Below wx.heap.size wx w' := zaj qb (by (try go_split_ands); assumption); obtain ⟨hcc, hff⟩ := zeb qb)
    refine hK.out _ _ ?_ (fun qH => ?_)
    · (try dsimp only)
      (first | assumption | ((try go_split_ands); refine zay ?_ (fun hbX => ⟨zaa hbX f0, zaa hbX f1, zaa hbX f2, zaa hbX f3, zaa hbX f4, zaa hbX f5, zaa hbX g2, zaa hbX g6, zaa hbX g10, zaa hbX q0, zaa hbX q1, zaa hbX q2, zaa hbX q3, zaa hbX q4, zaa hbX q5⟩); (with_reducible repeat first | assumption | exact zaj (by assumption) (by assumption) | refine Below.drew ?_ | refine zak ?_ _)))
    clear hK K
    try simp only [List.getElem_toArray, List.getElem_cons_zero, List.getElem_cons_succ, Act.put, List.setIfInBounds_toArray, List.set_cons_zero, List.set_cons_succ, Dc1.out, Dc2.out, Dc3.out, HKD.out, HKDN.out]
    iterate 32
     first
      | (refine tkN 39 (v := ?_) rfl rfl (Or.inl ⟨by rfl, ?_⟩) (by assumption) ?_
         rotate_left
         · (intro w hSw; (try dsimp only at hSw); go_simp; try with_reducible rfl))
      | refine tkN 39 (v := undef) rfl rfl (Or.inr ⟨by rfl, rfl⟩) (by assumption) ?_
     try simp only [List.getElem_toArray, List.getElem_cons_zero, List.getElem_cons_succ, Act.put, List.setIfInBounds_toArray, List.set_cons_zero, List.set_cons_succ, Dc1.out, Dc2.out, Dc3.out, HKD.out, HKDN.out]
    refine wpAnyH_ready (rs := [35]) (by kernel_rfl) (by simp) ?_
    refine AllReadyH.cons (o := _) rfl (fun K hK => ?_) ?_
    rotate_left
    · exact AllReadyH.nil
    go_simp
    (go_at_call 156; refine (k2.out _).mono ?_; rintro e w' ⟨rfl, hbel2⟩; have hbw2 : Below wx.heap.size wx w' := zaj hbel2 (by (try go_split_ands); assumption); obtain ⟨hcc2, hff2⟩ := zeb hbel2)
    refine hK.out _ _ ?_ (fun qH => ?_)
    · (try dsimp only)
      (first | assumption | ((try go_split_ands); refine zay ?_ (fun hbX => ⟨zaa hbX f0, zaa hbX f1, zaa hbX f2, zaa hbX f3, zaa hbX f4, zaa hbX f5, zaa hbX g2, zaa hbX g6, zaa hbX g10, zaa hbX q0, zaa hbX q1, zaa hbX q2, zaa hbX q3, zaa hbX q4, zaa hbX q5⟩); (with_reducible repeat first | assumption | exact zaj (by assumption) (by assumption) | refine Below.drew ?_ | refine zak ?_ _)))
    clear hK K
    try simp only [List.getElem_toArray, List.getElem_cons_zero, List.getElem_cons_succ, Act.put, List.setIfInBounds_toArray, List.set_cons_zero, List.set_cons_succ, Dc1.out, Dc2.out, Dc3.out, HKD.out, HKDN.out]
    iterate 3
     first
      | (refine tkN 39 (v := ?_) rfl rfl (Or.inl ⟨by rfl, ?_⟩) (by assumption) ?_
         rotate_left
         · (intro w hSw; (try dsimp only at hSw); go_simp; try with_reducible rfl))
      | refine tkN 39 (v := undef) rfl rfl (Or.inr ⟨by rfl, rfl⟩) (by assumption) ?_
     try simp only [List.getElem_toArray, List.getElem_cons_zero, List.getElem_cons_succ, Act.put, List.setIfInBounds_toArray, List.set_cons_zero, List.set_cons_succ, Dc1.out, Dc2.out, Dc3.out, HKD.out, HKDN.out]
    refine wpAnyH_done (by kernel_rfl) ?_ _
    all_goals
     have UZ := H9 (U1.out.later hbw2)
     go_wp2_with fail
     go_ret
     exact ⟨by first | rfl | simp, UZ.out⟩
  go_wp2_with fail
  rw [← HWX.out]
  refine wp_region_held_drew (S := fun w' => Below wx.heap.size wx w' ∧ w'.cell? ⟨wo.heap.size, 0, none⟩ = some (.int .i64 at0) ∧ w'.cell? ⟨wo.heap.size, 1, none⟩ = some (.int .i64 sq0) ∧ w'.cell? ⟨wo.heap.size, 2, none⟩ = some (.int .i64 ti0) ∧ w'.cell? ⟨wo.heap.size, 3, none⟩ = some (.bool mk0) ∧ w'.cell? ⟨wo.heap.size, 4, none⟩ = some (.int .u8 ty0) ∧ w'.cell? ⟨wo.heap.size, 5, none⟩ = some (.slice B0 pl0.length c0) ∧ w'.cell? ⟨w.heap.size, 2, none⟩ = some (.int .i64 nw) ∧ w'.cell? ⟨w.heap.size, 6, none⟩ = some (.int .i64 hi) ∧ w'.cell? ⟨w.heap.size, 10, none⟩ = some (.slice (some ⟨b, off, none⟩) l.length qc) ∧ w'.cell? ⟨b, off + m * 6, none⟩ = some (.int .i64 at9) ∧ w'.cell? ⟨b, off + m * 6 + 1, none⟩ = some (.int .i64 sq9) ∧ w'.cell? ⟨b, off + m * 6 + 2, none⟩ = some (.int .i64 ti9) ∧ w'.cell? ⟨b, off + m * 6 + 3, none⟩ = some (.bool mk9) ∧ w'.cell? ⟨b, off + m * 6 + 4, none⟩ = some (.int .u8 ty9) ∧ w'.cell? ⟨b, off + m * 6 + 5, none⟩ = some (.slice B9 pl9.length c9)) (by kernel_rfl) ?_ (fun qH => ?_)
  · (first | assumption | ((try go_split_ands); refine zay ?_ (fun hbX => ⟨zaa hbX f0, zaa hbX f1, zaa hbX f2, zaa hbX f3, zaa hbX f4, zaa hbX f5, zaa hbX g2, zaa hbX g6, zaa hbX g10, zaa hbX q0, zaa hbX q1, zaa hbX q2, zaa hbX q3, zaa hbX q4, zaa hbX q5⟩); (with_reducible repeat first | assumption | exact zaj (by assumption) (by assumption) | refine Below.drew ?_ | refine zak ?_ _)))
  iterate 2
   first
    | (refine tkN 39 (v := ?_) rfl rfl (Or.inl ⟨by rfl, ?_⟩) (by assumption) ?_
       rotate_left
       · (intro w hSw; (try dsimp only at hSw); go_simp; try with_reducible rfl))
    | refine tkN 39 (v := undef) rfl rfl (Or.inr ⟨by rfl, rfl⟩) (by assumption) ?_
   try simp only [List.getElem_toArray, List.getElem_cons_zero, List.getElem_cons_succ, Act.put, List.setIfInBounds_toArray, List.set_cons_zero, List.set_cons_succ, Dc1.out, Dc2.out, Dc3.out, HKD.out, HKDN.out]
  refine wpAnyH_ready (rs := [2]) (by kernel_rfl) (by simp) ?_
  refine AllReadyH.cons (o := _) rfl (fun K hK => ?_) ?_
  rotate_left
  · exact AllReadyH.nil
  go_simp
  (go_at_call 118; refine (k1.out _).mono ?_; rintro e w' ⟨rfl, qb⟩; have hbw : Below wx.heap.size wx w' := zaj qb (by (try go_split_ands); assumption); obtain ⟨hcc, hff⟩ := zeb qb)
  refine hK.out _ _ ?_ (fun qH => ?_)
  · (try dsimp only)
    (first | assumption | ((try go_split_ands); refine zay ?_ (fun hbX => ⟨zaa hbX f0, zaa hbX f1, zaa hbX f2, zaa hbX f3, zaa hbX f4, zaa hbX f5, zaa hbX g2, zaa hbX g6, zaa hbX g10, zaa hbX q0, zaa hbX q1, zaa hbX q2, zaa hbX q3, zaa hbX q4, zaa hbX q5⟩); (with_reducible repeat first | assumption | exact zaj (by assumption) (by assumption) | refine Below.drew ?_ | refine zak ?_ _)))
  clear hK K
  try simp only [List.getElem_toArray, List.getElem_cons_zero, List.getElem_cons_succ, Act.put, List.setIfInBounds_toArray, List.set_cons_zero, List.set_cons_succ, Dc1.out, Dc2.out, Dc3.out, HKD.out, HKDN.out]
  iterate 32
   first
    | (refine tkN 39 (v := ?_) rfl rfl (Or.inl ⟨by rfl, ?_⟩) (by assumption) ?_
       rotate_left
       · (intro w hSw; (try dsimp only at hSw); go_simp; try with_reducible rfl))
    | refine tkN 39 (v := undef) rfl rfl (Or.inr ⟨by rfl, rfl⟩) (by assumption) ?_
   try simp only [List.getElem_toArray, List.getElem_cons_zero, List.getElem_cons_succ, Act.put, List.setIfInBounds_toArray, List.set_cons_zero, List.set_cons_succ, Dc1.out, Dc2.out, Dc3.out, HKD.out, HKDN.out]
  refine wpAnyH_ready (rs := [35]) (by kernel_rfl) (by simp) ?_
  refine AllReadyH.cons (o := _) rfl (fun K hK => ?_) ?_
  rotate_left
  · exact AllReadyH.nil
  go_simp
  (go_at_call 156; refine (k2.out _).mono ?_; rintro e w' ⟨rfl, hbel2⟩; have hbw2 : Below wx.heap.size wx w' := zaj hbel2 (by (try go_split_ands); assumption); obtain ⟨hcc2, hff2⟩ := zeb hbel2)
  refine hK.out _ _ ?_ (fun qH => ?_)
  · (try dsimp only)
    (first | assumption | ((try go_split_ands); refine zay ?_ (fun hbX => ⟨zaa hbX f0, zaa hbX f1, zaa hbX f2, zaa hbX f3, zaa hbX f4, zaa hbX f5, zaa hbX g2, zaa hbX g6, zaa hbX g10, zaa hbX q0, zaa hbX q1, zaa hbX q2, zaa hbX q3, zaa hbX q4, zaa hbX q5⟩); (with_reducible repeat first | assumption | exact zaj (by assumption) (by assumption) | refine Below.drew ?_ | refine zak ?_ _)))
  clear hK K
  try simp only [List.getElem_toArray, List.getElem_cons_zero, List.getElem_cons_succ, Act.put, List.setIfInBounds_toArray, List.set_cons_zero, List.set_cons_succ, Dc1.out, Dc2.out, Dc3.out, HKD.out, HKDN.out]
  iterate 3
   first
    | (refine tkN 39 (v := ?_) rfl rfl (Or.inl ⟨by rfl, ?_⟩) (by assumption) ?_
       rotate_left
       · (intro w hSw; (try dsimp only at hSw); go_simp; try with_reducible rfl))
    | refine tkN 39 (v := undef) rfl rfl (Or.inr ⟨by rfl, rfl⟩) (by assumption) ?_
   try simp only [List.getElem_toArray, List.getElem_cons_zero, List.getElem_cons_succ, Act.put, List.setIfInBounds_toArray, List.set_cons_zero, List.set_cons_succ, Dc1.out, Dc2.out, Dc3.out, HKD.out, HKDN.out]
  refine wpAnyH_done (by kernel_rfl) ?_ _
  all_goals
   have HBF : Hid (0 < k → Jb.bef ((l.map TW.w).getD (k - 1) Jb.Wt.zero) ⟨at0, ⟨sq0, ti0, mk0, ty0, pl0⟩⟩) := H9 (fun _ => by rw [HGD.out]; have h8 := HBV.out; rw [eq_comm, decide_eq_true_iff] at h8; exact h8)
   obtain ⟨g0, hg0⟩ : ∃ g0, g0 = gk := ⟨_, rfl⟩
   subst hg0
   have BXZ := H9 (BX.out.later hbw2)
   have BSZ := H9 (BS1.out.later hbw2)
   have UZ := H9 (U1.out.later hbw2)
   clear hm0 hm1 hm2 hw2 hw3 hw4
   clear hcc hff hbw qb f0 f1 f2 f3 f4 f5 g2 g6 g10 hU
   clear hcc2 hff2 hbw2 hbel2 q0 q1 q2 q3 q4 q5
   go_wp2_with fail
   go_loopg [5] k (fun gj j wr => ∃ y : Nat, gj + y = k ∧ j = .int .i64 y ∧ Hid (∀ i, i < y → ((l.map TW.w).getD i Jb.Wt.zero).m.sq ≠ sq0) ∧ Hid (Blk wr w.heap.size 40 #[.int .i64 le, .int .i64 mo, .int .i64 nw, .bool on, .int .i64 ze, .int .i64 fi, .int .i64 hi, .int .i64 dn, .int .i64 sp, .int .i64 tr, .slice (some ⟨b, off, none⟩) l.length qc, .int .i64 la, .int .i64 tw, .int .i64 pd]) ∧ Hid (Blk wr wo.heap.size 105 #[.int .i64 at0, .int .i64 sq0, .int .i64 ti0, .bool mk0, .int .u8 ty0, .slice B0 pl0.length c0]) ∧ Hid (Bel w wr))
   case atStart => exact ⟨0, by omega, rfl, H9 (fun i h => absurd h (by omega)), BSZ, BXZ, UZ⟩
   case round =>
    obtain ⟨y, hhm, rfl, HD, BS2, BX2, U2⟩ := hrel
    have hm0 : (0 : Int) ≤ (y : Int) := by omega
    have u1 := BX2.out.at 1 _ rfl
    have u10 := BS2.out.at 10 _ rfl
    by_cases hmk : y < k
    rotate_left
    · obtain rfl : y = k := by omega
      have hmm : (y : Int) ≤ (y : Int) := Int.le_refl _
      go_wp2_with fail
      go_roundg (g0 - 1)
      case measure => omega
      case rel =>
       refine ⟨y + 1, by omega, by go_num, H9 (fun j hj => ?_), BS2, U2⟩
       by_cases hj2 : j < y
       · exact HT.out j hj2
       · obtain rfl : j = y := by omega
         refine HO.out.2 ⟨⟨HOK.out, c1', c2', c3'⟩, ?_, HBF.out⟩
         rw [List.any_eq_false]
         intro x hx
         obtain ⟨yy, hy, rfl⟩ := List.mem_map.1 hx
         obtain ⟨i, hi', rfl⟩ := List.getElem_of_mem hy
         have hik : i < j := by simp at hi'; omega
         have h9 := HD.out i hik
         rw [Jb.getD_eq (by simp; omega)] at h9
         rw [List.getElem_take]
         simpa using h9
    have hmk1 : (y : Int) < (k : Int) := by omega
    have hml : (y : Int) < (l.length : Int) := by omega
    obtain ⟨a8, ha8⟩ : ∃ a, l[y]? = some a := ⟨_, List.getElem?_eq_getElem (by omega)⟩
    obtain ⟨b8, off8, he8, hb8, z0, z1, z2, z3, z4, z5⟩ := zcj (HA.out.1.keep (fun p hp => U2.out.cell hp)) ha8
    injection he8 with he8
    injection he8 with he8a he8b
    subst he8a he8b
    have hm8 : (l.map TW.w)[y]? = some a8.w := by rw [List.getElem?_map, ha8]; rfl
    have HM8 := H9 hm8
    obtain ⟨sq8, hsq8⟩ : ∃ x, x = a8.w.m.sq := ⟨_, rfl⟩
    rw [← hsq8] at z1
    have HSQ8 := H9 hsq8
    clear ha8 hm8 hsq8 z0 z2 z3 z4 z5
    by_cases heq : sq8 = sq0
    · have hee : (sq8 == sq0) = true := by simpa using heq
      have hv : v = false := HN.out (fun h => by
       have h9 := (HO.out.1 h).2.1
       rw [List.any_eq_false] at h9
       exact h9 sq8 (List.mem_map.2 ⟨a8.w, List.mem_of_getElem? (i := y) (by rw [List.getElem?_take, if_pos (by omega)]; exact HM8.out), HSQ8.out.symm⟩) hee)
      subst hv
      clear heq
      go_wp2_with fail
      go_quiet (fail)
      go_wp2_with fail
      go_ret
      exact ⟨by first | rfl | simp, U2.out.drewN _⟩
    have hee : (sq8 == sq0) = false := by simpa using heq
    have HNE := H9 heq
    clear heq
    go_wp2_with fail
    go_quiet (fail)
    go_wp2_with fail
    go_roundg (gk - 1)
    case measure => omega
    case rel =>
     refine ⟨y + 1, by omega, by go_num, H9 (fun i hi2 => ?_), H9 (BS2.out.drewN _), H9 (BX2.out.drewN _), H9 (U2.out.drewN _)⟩
     by_cases hi3 : i < y
     · exact HD.out i hi3
     · obtain rfl : i = y := by omega
       have h9 := HM8.out
       rw [List.getD_eq_getElem?_getD, h9]
       show a8.w.m.sq ≠ sq0
       rw [← HSQ8.out]
       exact HNE.out
theorem zls (le mo nw : Int) (on : Bool) (ze fi hi dn sp tr : Int) (A : Option Addr) (l : List TW) (n qc : Nat) (la tw pd : Int) (w : World) (hn : l.length = n) (hl : n ≤ 100000) (hA : Wts w w.heap.size A l) (hP : ∀ a ∈ l, a.w.m.pl.length ≤ 1000000000) (v : Bool) (hv : v = Jb.valid ⟨le, mo, nw, on, ze, fi, hi, dn, sp, tr, l.map TW.w, la, tw, pd⟩) : Calls Tryz.prog 69 #[.agg #[.int .i64 le, .int .i64 mo, .int .i64 nw, .bool on, .int .i64 ze, .int .i64 fi, .int .i64 hi, .int .i64 dn, .int .i64 sp, .int .i64 tr, .slice A n qc, .int .i64 la, .int .i64 tw, .int .i64 pd]] w fun e w' => e = .returned (.bool v) ∧ Below w.heap.size w w' := by
 subst hn
 have HV := H9 hv
 clear hv
 obtain ⟨cv, hcv⟩ : ∃ cv, cv = decide (1 ≤ le ∧ le ≤ mo ∧ mo ≤ 1000) := ⟨_, rfl⟩
 have k0 := H9 fun W => zff le mo W cv hcv
 have HC : Hid (cv = decide (Jb.cfg le mo)) := H9 hcv
 clear hcv
 obtain ⟨b0, hb0⟩ : ∃ b, b = decide ((0 : Int) ≤ nw ∧ nw ≤ 281474976710656) := ⟨_, rfl⟩
 have k1 := H9 fun W => zba nw (0) 281474976710656 W b0 hb0
 have HB0 := H9 hb0
 clear hb0
 obtain ⟨b1, hb1⟩ : ∃ b, b = decide ((-1125899906842624 : Int) ≤ ze ∧ ze ≤ 1125899906842624) := ⟨_, rfl⟩
 have k2 := H9 fun W => zba ze (-1125899906842624) 1125899906842624 W b1 hb1
 have HB1 := H9 hb1
 clear hb1
 obtain ⟨b2, hb2⟩ : ∃ b, b = decide ((-1125899906842624 : Int) ≤ tr ∧ tr ≤ 1125899906842624) := ⟨_, rfl⟩
 have k3 := H9 fun W => zba tr (-1125899906842624) 1125899906842624 W b2 hb2
 have HB2 := H9 hb2
 clear hb2
 obtain ⟨b3, hb3⟩ : ∃ b, b = decide ((-281474976710656 : Int) ≤ fi ∧ fi ≤ 281474976710656) := ⟨_, rfl⟩
 have k4 := H9 fun W => zba fi (-281474976710656) 281474976710656 W b3 hb3
 have HB3 := H9 hb3
 clear hb3
 obtain ⟨b4, hb4⟩ : ∃ b, b = decide ((-1 : Int) ≤ hi ∧ hi ≤ 281474976710656) := ⟨_, rfl⟩
 have k5 := H9 fun W => zba hi (-1) 281474976710656 W b4 hb4
 have HB4 := H9 hb4
 clear hb4
 obtain ⟨b5, hb5⟩ : ∃ b, b = decide ((-1 : Int) ≤ dn ∧ dn ≤ 281474976710656) := ⟨_, rfl⟩
 have k6 := H9 fun W => zba dn (-1) 281474976710656 W b5 hb5
 have HB5 := H9 hb5
 clear hb5
 obtain ⟨b6, hb6⟩ : ∃ b, b = decide ((0 : Int) ≤ sp ∧ sp ≤ 72057594037927936) := ⟨_, rfl⟩
 have k7 := H9 fun W => zba sp (0) 72057594037927936 W b6 hb6
 have HB6 := H9 hb6
 clear hb6
 obtain ⟨b7, hb7⟩ : ∃ b, b = decide ((0 : Int) ≤ la ∧ la ≤ 281474976710656) := ⟨_, rfl⟩
 have k8 := H9 fun W => zba la (0) 281474976710656 W b7 hb7
 have HB7 := H9 hb7
 clear hb7
 obtain ⟨b8, hb8⟩ : ∃ b, b = decide ((0 : Int) ≤ tw ∧ tw ≤ 281474976710656) := ⟨_, rfl⟩
 have k9 := H9 fun W => zba tw (0) 281474976710656 W b8 hb8
 have HB8 := H9 hb8
 clear hb8
 obtain ⟨b9, hb9⟩ : ∃ b, b = decide ((0 : Int) ≤ pd ∧ pd ≤ 281474976710656) := ⟨_, rfl⟩
 have k10 := H9 fun W => zba pd (0) 281474976710656 W b9 hb9
 have HB9 := H9 hb9
 clear hb9
 have kq := H9 fun (W : World) (hW : Bel w W) => zlr le mo nw on ze fi hi dn sp tr A l l.length qc la tw pd W rfl hl ((hA.below hW).more hW.size) hP (decide (Jb.okQ nw hi (l.map TW.w))) rfl
 have U0 := H9 ((Bel.refl w).push (.cells #[.int .i64 le, .int .i64 mo, .int .i64 nw, .bool on, .int .i64 ze, .int .i64 fi, .int .i64 hi, .int .i64 dn, .int .i64 sp, .int .i64 tr, .slice A l.length qc, .int .i64 la, .int .i64 tw, .int .i64 pd] 40))
 have BS := H9 (Blk.new w 40 #[.int .i64 le, .int .i64 mo, .int .i64 nw, .bool on, .int .i64 ze, .int .i64 fi, .int .i64 hi, .int .i64 dn, .int .i64 sp, .int .i64 tr, .slice A l.length qc, .int .i64 la, .int .i64 tw, .int .i64 pd])
 clear hA hP
 go_enter Tryz.func69, Tryz.ntmps69
 go_wp2_with fail
 refine (k0.out _).mono ?_
 rintro e w1 ⟨rfl, hb1⟩
 have U1 := H9 (U0.out.later hb1)
 have BS1 := H9 (BS.out.later hb1)
 clear hb1 U0 BS
 have s0 := (BS1.out).at 0 _ rfl
 have s1 := (BS1.out).at 1 _ rfl
 have s2 := (BS1.out).at 2 _ rfl
 have s3 := (BS1.out).at 3 _ rfl
 have s4 := (BS1.out).at 4 _ rfl
 have s5 := (BS1.out).at 5 _ rfl
 have s6 := (BS1.out).at 6 _ rfl
 have s7 := (BS1.out).at 7 _ rfl
 have s8 := (BS1.out).at 8 _ rfl
 have s9 := (BS1.out).at 9 _ rfl
 have s10 := (BS1.out).at 10 _ rfl
 have s11 := (BS1.out).at 11 _ rfl
 have s12 := (BS1.out).at 12 _ rfl
 have s13 := (BS1.out).at 13 _ rfl
 cases cv
 · have hv : v = false := by rw [HV.out]; exact zqz (fun h => by have h2 := HC.out; rw [eq_comm, decide_eq_false_iff_not] at h2; exact h2 h)
   subst hv
   go_wp2_with fail
   go_ret
   exact ⟨by first | rfl | simp, U1.out⟩
 go_wp2_with fail
 refine (k1.out _).mono ?_
 rintro e w2 ⟨rfl, rfl⟩
 cases b0
 · have hv : v = false := by rw [HV.out]; exact zcw (fun h => by obtain ⟨h0, h1, h2, h3, h4, h5, h6⟩ := h; have h9 := HB0.out; rw [eq_comm, decide_eq_false_iff_not] at h9; exact h9 h0)
   subst hv
   go_wp2_with fail
   go_ret
   exact ⟨by first | rfl | simp, U1.out⟩
 go_wp2_with fail
 refine (k2.out _).mono ?_
 rintro e w2 ⟨rfl, rfl⟩
 cases b1
 · have hv : v = false := by rw [HV.out]; exact zcw (fun h => by obtain ⟨h0, h1, h2, h3, h4, h5, h6⟩ := h; have h9 := HB1.out; rw [eq_comm, decide_eq_false_iff_not] at h9; exact h9 h1)
   subst hv
   go_wp2_with fail
   go_ret
   exact ⟨by first | rfl | simp, U1.out⟩
 go_wp2_with fail
 refine (k3.out _).mono ?_
 rintro e w2 ⟨rfl, rfl⟩
 cases b2
 · have hv : v = false := by rw [HV.out]; exact zcw (fun h => by obtain ⟨h0, h1, h2, h3, h4, h5, h6⟩ := h; have h9 := HB2.out; rw [eq_comm, decide_eq_false_iff_not] at h9; exact h9 h2)
   subst hv
   go_wp2_with fail
   go_ret
   exact ⟨by first | rfl | simp, U1.out⟩
 go_wp2_with fail
 refine (k4.out _).mono ?_
 rintro e w2 ⟨rfl, rfl⟩
 cases b3
 · have hv : v = false := by rw [HV.out]; exact zcw (fun h => by obtain ⟨h0, h1, h2, h3, h4, h5, h6⟩ := h; have h9 := HB3.out; rw [eq_comm, decide_eq_false_iff_not] at h9; exact h9 h3)
   subst hv
   go_wp2_with fail
   go_ret
   exact ⟨by first | rfl | simp, U1.out⟩
 go_wp2_with fail
 refine (k5.out _).mono ?_
 rintro e w2 ⟨rfl, rfl⟩
 cases b4
 · have hv : v = false := by rw [HV.out]; exact zcw (fun h => by obtain ⟨h0, h1, h2, h3, h4, h5, h6⟩ := h; have h9 := HB4.out; rw [eq_comm, decide_eq_false_iff_not] at h9; exact h9 h4)
   subst hv
   go_wp2_with fail
   go_ret
   exact ⟨by first | rfl | simp, U1.out⟩
 go_wp2_with fail
 refine (k6.out _).mono ?_
 rintro e w2 ⟨rfl, rfl⟩
 cases b5
 · have hv : v = false := by rw [HV.out]; exact zcw (fun h => by obtain ⟨h0, h1, h2, h3, h4, h5, h6⟩ := h; have h9 := HB5.out; rw [eq_comm, decide_eq_false_iff_not] at h9; exact h9 h5)
   subst hv
   go_wp2_with fail
   go_ret
   exact ⟨by first | rfl | simp, U1.out⟩
 go_wp2_with fail
 refine (k7.out _).mono ?_
 rintro e w2 ⟨rfl, rfl⟩
 cases b6
 · have hv : v = false := by rw [HV.out]; exact zcw (fun h => by obtain ⟨h0, h1, h2, h3, h4, h5, h6⟩ := h; have h9 := HB6.out; rw [eq_comm, decide_eq_false_iff_not] at h9; exact h9 h6)
   subst hv
   go_wp2_with fail
   go_ret
   exact ⟨by first | rfl | simp, U1.out⟩
 go_wp2_with fail
 refine (k8.out _).mono ?_
 rintro e w2 ⟨rfl, rfl⟩
 cases b7
 · have hv : v = false := by rw [HV.out]; exact zct (fun h => by obtain ⟨h7, h8, h6⟩ := h; have h9 := HB7.out; rw [eq_comm, decide_eq_false_iff_not] at h9; exact h9 h7)
   subst hv
   go_wp2_with fail
   go_ret
   exact ⟨by first | rfl | simp, U1.out⟩
 go_wp2_with fail
 refine (k9.out _).mono ?_
 rintro e w2 ⟨rfl, rfl⟩
 cases b8
 · have hv : v = false := by rw [HV.out]; exact zct (fun h => by obtain ⟨h7, h8, h6⟩ := h; have h9 := HB8.out; rw [eq_comm, decide_eq_false_iff_not] at h9; exact h9 h8)
   subst hv
   go_wp2_with fail
   go_ret
   exact ⟨by first | rfl | simp, U1.out⟩
 go_wp2_with fail
 refine (k10.out _).mono ?_
 rintro e w2 ⟨rfl, rfl⟩
 cases b9
 · have hv : v = false := by rw [HV.out]; exact zct (fun h => by obtain ⟨h7, h8, h6⟩ := h; have h9 := HB9.out; rw [eq_comm, decide_eq_false_iff_not] at h9; exact h9 h6)
   subst hv
   go_wp2_with fail
   go_ret
   exact ⟨by first | rfl | simp, U1.out⟩
 have HX : Hid (Jb.Jt.nums ⟨le, mo, nw, on, ze, fi, hi, dn, sp, tr, l.map TW.w, la, tw, pd⟩) := H9 ⟨(by have h9 := HB0.out; rw [eq_comm, decide_eq_true_iff] at h9; exact h9), (by have h9 := HB1.out; rw [eq_comm, decide_eq_true_iff] at h9; exact h9), (by have h9 := HB2.out; rw [eq_comm, decide_eq_true_iff] at h9; exact h9), (by have h9 := HB3.out; rw [eq_comm, decide_eq_true_iff] at h9; exact h9), (by have h9 := HB4.out; rw [eq_comm, decide_eq_true_iff] at h9; exact h9), (by have h9 := HB5.out; rw [eq_comm, decide_eq_true_iff] at h9; exact h9), (by have h9 := HB6.out; rw [eq_comm, decide_eq_true_iff] at h9; exact h9)⟩
 have HCN : Hid (Jb.Jt.cnts ⟨le, mo, nw, on, ze, fi, hi, dn, sp, tr, l.map TW.w, la, tw, pd⟩) := H9 ⟨(by have h9 := HB7.out; rw [eq_comm, decide_eq_true_iff] at h9; exact h9), (by have h9 := HB8.out; rw [eq_comm, decide_eq_true_iff] at h9; exact h9), (by have h9 := HB9.out; rw [eq_comm, decide_eq_true_iff] at h9; exact h9)⟩
 have HCF : Hid (Jb.cfg le mo) := H9 (by have h2 := HC.out; rw [eq_comm, decide_eq_true_iff] at h2; exact h2)
 clear HC HB0 k1 HB1 k2 HB2 k3 HB3 k4 HB4 k5 HB5 k6 HB6 k7 HB7 k8 HB8 k9 HB9 k10 k0
 cases on
 rotate_left
 · have hv : v = decide (Jb.okQ nw hi (l.map TW.w)) := by rw [HV.out]; exact zkk HX.out HCF.out HCN.out (Or.inl rfl)
   have HV2 := H9 hv
   clear hv
   go_wp2_with fail
   refine (kq.out _ U1.out).mono ?_
   rintro e w2 ⟨rfl, hb2⟩
   have UF := H9 (U1.out.later hb2)
   clear hb2
   go_wp2_with fail
   go_ret
   exact ⟨zic HV2.out.symm, UF.out⟩
 by_cases y1 : l.length = 0
 rotate_left
 · have hv : v = false := by rw [HV.out]; refine zdx (fun h => ?_); rcases h with h | ⟨y1, y2, y3⟩; exact absurd h (by simp); simp only [List.length_map] at y1 y2 y3; omega
   subst hv
   have y1n : ¬l = [] := by intro h; rw [h] at y1; exact y1 rfl
   have y1' : ((l.length : Int) != 0) = true := by simpa using y1
   go_wp2_with fail
   go_ret
   exact ⟨by first | rfl | simp, U1.out⟩
 obtain rfl : l = [] := List.eq_nil_of_length_eq_zero y1
 simp only [List.length_nil] at s10
 clear y1
 by_cases y2 : hi = -1
 rotate_left
 · have hv : v = false := by rw [HV.out]; refine zdx (fun h => ?_); rcases h with h | ⟨y1, y2, y3⟩; exact absurd h (by simp); simp only [List.length_map] at y1 y2 y3; omega
   subst hv
   have y2' : (hi != -1) = true := by simpa using y2
   go_wp2_with fail
   go_ret
   exact ⟨by first | rfl | simp, U1.out⟩
 by_cases y3 : dn = -1
 rotate_left
 · have hv : v = false := by rw [HV.out]; refine zdx (fun h => ?_); rcases h with h | ⟨y1, y2, y3⟩; exact absurd h (by simp); simp only [List.length_map] at y1 y2 y3; omega
   subst hv
   have y3' : (dn != -1) = true := by simpa using y3
   have y2' : (hi != -1) = false := by simpa using y2
   go_wp2_with fail
   go_ret
   exact ⟨by first | rfl | simp, U1.out⟩
 have hrest : Jb.Jt.rest ⟨le, mo, nw, false, ze, fi, hi, dn, sp, tr, [].map TW.w, la, tw, pd⟩ := Or.inr ⟨rfl, y2, y3⟩
 have HRS := H9 hrest
 have y3' : (dn != -1) = false := by simpa using y3
 have y2' : (hi != -1) = false := by simpa using y2
 clear y2 y3 hrest
 have hv : v = decide (Jb.okQ nw hi (([] : List TW).map TW.w)) := by rw [HV.out]; exact zkk HX.out HCF.out HCN.out (HRS.out)
 have HV2 := H9 hv
 clear hv
 go_wp2_with fail
 refine (kq.out _ U1.out).mono ?_
 rintro e w2 ⟨rfl, hb2⟩
 have UF := H9 (U1.out.later hb2)
 clear hb2
 go_wp2_with fail
 go_ret
 exact ⟨zic HV2.out.symm, UF.out⟩
theorem zrw (sq ti : Int) (mk : Bool) (ty : Int) (pl : List Int) (A B : Option Addr) (c d : Nat) (w : World) (hA : IntsAt w w.heap.size .u8 A pl) (hB : IntsAt w w.heap.size .u8 B pl) : Calls Tryz.prog 158 #[.agg #[.int .i64 sq, .int .i64 ti, .bool mk, .int .u8 ty, .slice A pl.length c], .agg #[.int .i64 sq, .int .i64 ti, .bool mk, .int .u8 ty, .slice B pl.length d]] w fun e w' => e = .returned (.bool true) ∧ Below w.heap.size w w' := by
 have hb : Bel w ((w.alloc (.cells #[.int .i64 sq, .int .i64 ti, .bool mk, .int .u8 ty, .slice A pl.length c] 103)).alloc (.cells #[.int .i64 sq, .int .i64 ti, .bool mk, .int .u8 ty, .slice B pl.length d] 103)) := ((Bel.refl w).push _).push _
 have v1 := zaz (P := Tryz.prog) (hA.below hb) 22 9 5 Tryz.underlying22 Tryz.underlying5 Tryz.underlying9 pl.length c rfl
 have v2 := zaz (P := Tryz.prog) (hB.below hb) 22 9 5 Tryz.underlying22 Tryz.underlying5 Tryz.underlying9 pl.length d rfl
 have U := H9 hb
 clear hb hA hB
 go_enter Tryz.func158, Tryz.ntmps158
 go_wp2_with fail
 go_ret
 exact ⟨by first | rfl | simp, U.out⟩
theorem zrx (A B : Option Addr) (l1 l2 : List TW) (n c d : Nat) (w : World) (hn : l1.length = n) (heq : l1.map TW.w = l2.map TW.w) (hl : n ≤ 1000000) (hA : Wts w w.heap.size A l1) (hB : Wts w w.heap.size B l2) : Calls Tryz.prog 122 #[.slice A n c, .slice B n d] w fun e w' => e = .returned (.bool true) ∧ Below w.heap.size w w' := by
 subst hn
 have hl2 : l2.length = l1.length := by have := congrArg List.length heq; simpa using this.symm
 have HL2 := H9 hl2
 have HEQ := H9 heq
 have HA := H9 hA
 have HB := H9 hB
 clear hl2 heq hA hB
 go_enter Tryz.func122, Tryz.ntmps122
 go_wp2_with fail
 go_loopg [5] l1.length (fun gk i wr => ∃ k : Nat, gk + k = l1.length ∧ i = .int .i64 k ∧ Hid (Bel w wr))
 case atStart => exact ⟨0, rfl, rfl, H9 (Bel.refl w)⟩
 case round =>
  obtain ⟨k, hgk, rfl, U⟩ := hrel
  have hi0 : (0 : Int) ≤ (k : Int) := by omega
  by_cases hk : k < l1.length
  rotate_left
  · obtain rfl : k = l1.length := by omega
    have hi1 : (l1.length : Int) ≤ (l1.length : Int) := Int.le_refl _
    go_wp2_with fail
    go_ret
    exact ⟨by first | rfl | simp, U.out⟩
  have hi1 : (k : Int) < (l1.length : Int) := by omega
  obtain ⟨a, ha⟩ : ∃ a, l1[k]? = some a := ⟨_, List.getElem?_eq_getElem hk⟩
  obtain ⟨a2, ha2⟩ : ∃ a, l2[k]? = some a := ⟨_, List.getElem?_eq_getElem (by have := HL2.out; omega)⟩
  have hww : a.w = a2.w := by
   have h1 : (l1.map TW.w)[k]? = some a.w := by rw [List.getElem?_map, ha]; rfl
   have h2 : (l2.map TW.w)[k]? = some a2.w := by rw [List.getElem?_map, ha2]; rfl
   rw [HEQ.out, h2] at h1
   injection h1 with h1
   exact h1.symm
  obtain ⟨b, off, rfl, hbB, e0, e1, e2, e3, e4, e5⟩ := zcj (HA.out.1.keep (fun p hp => U.out.cell hp)) ha
  obtain ⟨b', off', rfl, hbB', q0, q1, q2, q3, q4, q5⟩ := zcj (HB.out.1.keep (fun p hp => U.out.cell hp)) ha2
  have p1 := (HA.out.2 a (List.mem_of_getElem? ha)).keep (w' := wr) (fun p hp => U.out.cell hp)
  have p2 := (HB.out.2 a2 (List.mem_of_getElem? ha2)).keep (w' := wr) (fun p hp => U.out.cell hp)
  rw [← hww] at q0 q1 q2 q3 q4 q5 p2
  obtain ⟨⟨at0, ⟨sq0, ti0, mk0, ty0, pl0⟩⟩, B0, c0⟩ := a
  obtain ⟨x2, B2, c2⟩ := a2
  simp only at e0 e1 e2 e3 e4 e5 q0 q1 q2 q3 q4 q5 p1 p2
  have hbs := U.out.size
  have k1 := H9 fun (W : World) (hW : Below wr.heap.size wr W) => zrw sq0 ti0 mk0 ty0 pl0 B0 B2 c0 c2 W (((p1.more hbs).below hW).more hW.size) (((p2.more hbs).below hW).more hW.size)
  have hU : Below wr.heap.size wr wr := Below.refl _ _
  have hb1 : b < wr.heap.size := by omega
  have hb2 : b' < wr.heap.size := by omega
  clear ha ha2 hww p1 p2
  go_wp2_with fail
  first
   | go_region_held3 (fun w' => Below wr.heap.size wr w' ∧ w'.cell? ⟨b, off + k * 6, none⟩ = some (.int .i64 at0) ∧ w'.cell? ⟨b, off + k * 6 + 1, none⟩ = some (.int .i64 sq0) ∧ w'.cell? ⟨b, off + k * 6 + 1 + 1, none⟩ = some (.int .i64 ti0) ∧ w'.cell? ⟨b, off + k * 6 + 1 + 2, none⟩ = some (.bool mk0) ∧ w'.cell? ⟨b, off + k * 6 + 1 + 3, none⟩ = some (.int .u8 ty0) ∧ w'.cell? ⟨b, off + k * 6 + 1 + 4, none⟩ = some (.slice B0 pl0.length c0) ∧ w'.cell? ⟨b', off' + k * 6, none⟩ = some (.int .i64 at0) ∧ w'.cell? ⟨b', off' + k * 6 + 1, none⟩ = some (.int .i64 sq0) ∧ w'.cell? ⟨b', off' + k * 6 + 1 + 1, none⟩ = some (.int .i64 ti0) ∧ w'.cell? ⟨b', off' + k * 6 + 1 + 2, none⟩ = some (.bool mk0) ∧ w'.cell? ⟨b', off' + k * 6 + 1 + 3, none⟩ = some (.int .u8 ty0) ∧ w'.cell? ⟨b', off' + k * 6 + 1 + 4, none⟩ = some (.slice B2 pl0.length c2))
    (first | assumption | ((try go_split_ands); refine zay ?_ (fun hbX => ⟨zaa hbX e0, zaa hbX e1, zaa hbX e2, zaa hbX e3, zaa hbX e4, zaa hbX e5, zaa hbX q0, zaa hbX q1, zaa hbX q2, zaa hbX q3, zaa hbX q4, zaa hbX q5⟩); (with_reducible repeat first | assumption | exact zaj (by assumption) (by assumption) | refine Below.drew ?_ | refine zak ?_ _)))
    (first | (go_at_call 158; refine (k1.out _ (by (try go_split_ands); assumption)).mono ?_; rintro e w' ⟨rfl, qb⟩; have hbw : Below wr.heap.size wr w' := zaj qb (by (try go_split_ands); assumption); obtain ⟨hcc, hff⟩ := zeb qb))
   | fail
  all_goals
   have UZ := H9 (U.out.later hbw)
   clear hcc hff hbw qb e0 e1 e2 e3 e4 e5 q0 q1 q2 q3 q4 q5
   go_wp2_with fail
   go_roundg (gk - 1)
   case measure => omega
   case rel => exact ⟨k + 1, by omega, by go_num, UZ⟩
theorem znt (s : Jb.Jt) (A B : Option Addr) (l1 l2 : List TW) (n c d : Nat) (w : World) (hn : l1.length = n) (heq : l1.map TW.w = l2.map TW.w) (hl : n ≤ 1000000) (hA : Wts w w.heap.size A l1) (hB : Wts w w.heap.size B l2) : Calls Tryz.prog 56 #[.agg #[.int .i64 s.least, .int .i64 s.most, .int .i64 s.now, .bool s.on, .int .i64 s.zero, .int .i64 s.first, .int .i64 s.high, .int .i64 s.done, .int .i64 s.spread, .int .i64 s.trans, .slice A n c, .int .i64 s.late, .int .i64 s.twice, .int .i64 s.played], .agg #[.int .i64 s.least, .int .i64 s.most, .int .i64 s.now, .bool s.on, .int .i64 s.zero, .int .i64 s.first, .int .i64 s.high, .int .i64 s.done, .int .i64 s.spread, .int .i64 s.trans, .slice B n d, .int .i64 s.late, .int .i64 s.twice, .int .i64 s.played]] w fun e w' => e = .returned (.bool true) ∧ Below w.heap.size w w' := by
 have U := H9 (((Bel.refl w).push (.cells #[.int .i64 s.least, .int .i64 s.most, .int .i64 s.now, .bool s.on, .int .i64 s.zero, .int .i64 s.first, .int .i64 s.high, .int .i64 s.done, .int .i64 s.spread, .int .i64 s.trans, .slice A n c, .int .i64 s.late, .int .i64 s.twice, .int .i64 s.played] 40)).push (.cells #[.int .i64 s.least, .int .i64 s.most, .int .i64 s.now, .bool s.on, .int .i64 s.zero, .int .i64 s.first, .int .i64 s.high, .int .i64 s.done, .int .i64 s.spread, .int .i64 s.trans, .slice B n d, .int .i64 s.late, .int .i64 s.twice, .int .i64 s.played] 40))
 have k1 := H9 (zrx A B l1 l2 n c d _ hn heq hl ((hA.below U.out).more U.out.size) ((hB.below U.out).more U.out.size))
 clear hA hB heq hn
 go_enter Tryz.func56, Tryz.ntmps56
 go_wp2_with fail
 refine k1.out.mono ?_
 rintro e w1 ⟨rfl, hb1⟩
 have U1 := H9 (U.out.later hb1)
 clear hb1
 go_wp2_with fail
 go_ret
 exact ⟨by first | rfl | simp, U1.out⟩
end Go.Proofs.YtahbecinkciahaaGreat
namespace Go.Proofs.YtahbecinkciahaaGreat
open Go.RowKit
theorem zpq (s : Jb.Jt) (A : Option Addr) (l : List TW) (n c : Nat) (w : World) (hq : l.map TW.w = s.q) (hn : l.length = n) (hl : n ≤ 100000) (hA : Wts w w.heap.size A l) (hP : ∀ a ∈ l, a.w.m.pl.length ≤ 1000000000) (v : Bool) (hv : v = Jb.valid s) : Calls Tryz.prog 69 #[.agg #[.int .i64 s.least, .int .i64 s.most, .int .i64 s.now, .bool s.on, .int .i64 s.zero, .int .i64 s.first, .int .i64 s.high, .int .i64 s.done, .int .i64 s.spread, .int .i64 s.trans, .slice A n c, .int .i64 s.late, .int .i64 s.twice, .int .i64 s.played]] w fun e w' => e = .returned (.bool v) ∧ Below w.heap.size w w' := by
 refine zls s.least s.most s.now s.on s.zero s.first s.high s.done s.spread s.trans A l n c s.late s.twice s.played w hn hl hA hP v ?_
 rw [hq]; exact hv
theorem zpr (n : Int) (A : Option Addr) (len cap : Nat) (w : World) (h1 : (n != 1) = true) (h2 : (n != 2) = true) :
 Calls Tryz.prog 87 #[.int .u8 n, .slice A len cap] w fun e w' => e = .returned (.tuple #[.slice none 0 0, .int .u8 2]) ∧ w = w' := by
 go_enter Tryz.func87, Tryz.ntmps87
 go_wp2
 go_ret2
 exact ⟨rfl, rfl⟩
theorem zez (n : Int) (A : Option Addr) (len cap : Nat) (w : World) (hn : n = 1 ∨ n = 2) (h : 8000 < (len : Int)) :
 Calls Tryz.prog 87 #[.int .u8 n, .slice A len cap] w fun e w' => e = .returned (.tuple #[.slice none 0 0, .int .u8 4]) ∧ w = w' := by
 rcases hn with rfl | rfl
 all_goals
  go_enter Tryz.func87, Tryz.ntmps87
  go_wp2
  go_ret2
  exact ⟨rfl, rfl⟩
theorem zdl (f : Int → Int) (zs : List Int) (k : Nat) (h : k < zs.length) : (zs.take (k + 1)).map f = (zs.take k).map f ++ [f (zs.getD k 0)] := by
 rw [List.take_succ_eq_append_getElem h, List.map_append, List.getD_eq_getElem?_getD, List.getElem?_eq_getElem h]
 rfl
theorem zps (A : Option Addr) (zs : List Int) (cap : Nat) (w : World) (hA : IntsAt w w.heap.size .i16 A zs) (hz : Within (-32768) 32767 zs) (h8 : zs.length ≤ 8000) :
 Calls Tryz.prog 87 #[.int .u8 1, .slice A zs.length cap] w fun e w' => ∃ (A' : Option Addr) (c' : Nat), e = .returned (.tuple #[.slice A' zs.length c', .int .u8 0]) ∧
  IntsAt w' w'.heap.size .u8 A' (zs.map Cmp.muZ) ∧ Below w.heap.size w w' := by
 go_enter Tryz.func87, Tryz.ntmps87
 go_wp2
 go_loopw [6, 7] (fun v i wr => ∃ (k : Nat) (A' : Option Addr) (c' : Nat) (xs : List Value), k ≤ zs.length ∧ i = .int .i64 k ∧ v = .slice A' k c' ∧ Owns wr w.heap.size 5 1 A' k c' xs ∧ Hid (xs = ((zs.take k).map Cmp.muZ).map (Value.int .u8)) ∧ Below w.heap.size w wr)
  (fun _ i _ => zs.length - (intOf i).toNat)
 case atStart => exact ⟨0, none, 0, [], Nat.zero_le _, rfl, rfl, Owns.nil, rfl, Below.refl _ _⟩
 case round =>
  obtain ⟨k, A', c', xs, hk, rfl, rfl, qo, HX, hb⟩ := hrel
  by_cases hlt : k < zs.length
  · obtain ⟨b, off, rfl, hbB, qc⟩ := hA (by omega)
    have hzk := hz.at hlt
    have hck : wr.cell? ⟨b, off + k, none⟩ = some (.int .i16 (zs.getD k 0)) := (hb.cell (p := ⟨b, off + k, none⟩) hbB).trans (qc k hlt)
    have hbs := hb.size
    clear qc
    generalize hzz : zs.getD k 0 = z at hck hzk
    have HZ := H9 hzz
    clear hzz
    obtain ⟨hz1', hz2'⟩ := hzk
    have hi0 : (0 : Int) ≤ (k : Int) := by omega
    have hi1 : (k : Int) < (zs.length : Int) := by omega
    have HO := H9 qo
    clear qo
    go_wp2_with (first
     | (go_at_call 132; refine (zsc _ _ (by omega) (by omega)).mono ?_; rintro e w' ⟨rfl, rfl⟩)
     | (at_builtin; refine zbl rfl _ _ 22 rfl w.heap.size 5 1 1 (.int .u8 0) Tryz.underlying22 zku rfl (by decide) A' k c' xs rfl HO.out [.int .u8 (Cmp.muZ z)] rfl (by simp [Value.oneCell']) rfl (by unfold maxLen; omega) (by omega) (by omega) ?_; intro A2 c2 w2 hown2 hg2 hlt2))
    go_roundw
    case rel =>
     refine ⟨k + 1, A2, c2, _, by omega, by go_num, rfl, hown2, ?_, zcx hb HO.out hg2 (by omega) (Nat.le_refl _)⟩
     rw [HX.out, zdl _ _ _ hlt, HZ.out, List.map_append]
     rfl
    case measure => simp [intOf]; omega
  · obtain rfl : k = zs.length := by omega
    go_wp2
    go_ret2
    refine ⟨A', c', rfl, ?_, hb⟩
    rw [HX.out, List.take_length] at qo
    exact qo.ints
theorem zry (A : Option Addr) (zs : List Int) (cap : Nat) (w : World) (hA : IntsAt w w.heap.size .i16 A zs) (hz : Within (-32768) 32767 zs) (h8 : zs.length ≤ 8000) :
 Calls Tryz.prog 87 #[.int .u8 2, .slice A zs.length cap] w fun e w' => ∃ (A' : Option Addr) (c' : Nat), e = .returned (.tuple #[.slice A' zs.length c', .int .u8 0]) ∧
  IntsAt w' w'.heap.size .u8 A' (zs.map Cmp.aZ) ∧ Below w.heap.size w w' := by
 go_enter Tryz.func87, Tryz.ntmps87
 go_wp2
 go_loopw [6, 7] (fun v i wr => ∃ (k : Nat) (A' : Option Addr) (c' : Nat) (xs : List Value), k ≤ zs.length ∧ i = .int .i64 k ∧ v = .slice A' k c' ∧ Owns wr w.heap.size 5 1 A' k c' xs ∧ Hid (xs = ((zs.take k).map Cmp.aZ).map (Value.int .u8)) ∧ Below w.heap.size w wr)
  (fun _ i _ => zs.length - (intOf i).toNat)
 case atStart => exact ⟨0, none, 0, [], Nat.zero_le _, rfl, rfl, Owns.nil, rfl, Below.refl _ _⟩
 case round =>
  obtain ⟨k, A', c', xs, hk, rfl, rfl, qo, HX, hb⟩ := hrel
  by_cases hlt : k < zs.length
  · obtain ⟨b, off, rfl, hbB, qc⟩ := hA (by omega)
    have hzk := hz.at hlt
    have hck : wr.cell? ⟨b, off + k, none⟩ = some (.int .i16 (zs.getD k 0)) := (hb.cell (p := ⟨b, off + k, none⟩) hbB).trans (qc k hlt)
    have hbs := hb.size
    clear qc
    generalize hzz : zs.getD k 0 = z at hck hzk
    have HZ := H9 hzz
    clear hzz
    obtain ⟨hz1', hz2'⟩ := hzk
    have hi0 : (0 : Int) ≤ (k : Int) := by omega
    have hi1 : (k : Int) < (zs.length : Int) := by omega
    have HO := H9 qo
    clear qo
    go_wp2_with (first
     | (go_at_call 133; refine (ztm _ _ (by omega) (by omega)).mono ?_; rintro e w' ⟨rfl, rfl⟩)
     | (at_builtin; refine zbl rfl _ _ 22 rfl w.heap.size 5 1 1 (.int .u8 0) Tryz.underlying22 zku rfl (by decide) A' k c' xs rfl HO.out [.int .u8 (Cmp.aZ z)] rfl (by simp [Value.oneCell']) rfl (by unfold maxLen; omega) (by omega) (by omega) ?_; intro A2 c2 w2 hown2 hg2 hlt2))
    go_roundw
    case rel =>
     refine ⟨k + 1, A2, c2, _, by omega, by go_num, rfl, hown2, ?_, zcx hb HO.out hg2 (by omega) (Nat.le_refl _)⟩
     rw [HX.out, zdl _ _ _ hlt, HZ.out, List.map_append]
     rfl
    case measure => simp [intOf]; omega
  · obtain rfl : k = zs.length := by omega
    go_wp2
    go_ret2
    refine ⟨A', c', rfl, ?_, hb⟩
    rw [HX.out, List.take_length] at qo
    exact qo.ints
def expMu (x : Int) : Int := ((Cmp.expo (Cmp.magMu x) : Nat) : Int)
def expA (x : Int) : Int := ((Cmp.expo (Cmp.magA x) : Nat) : Int)
def packOut (n : Int) (zs : List Int) : List Int := if n = 1 ∧ zs.length ≤ 8000 then zs.map Cmp.muZ else if n = 2 ∧ zs.length ≤ 8000 then zs.map Cmp.aZ else []
def unpackOut (n : Int) (zs : List Int) : List Int := if n = 1 ∧ zs.length ≤ 8000 then zs.map Cmp.fromMuZ else if n = 2 ∧ zs.length ≤ 8000 then zs.map Cmp.fromAZ else []
def packErr (n : Int) (len : Nat) : Int := if n ≠ 1 ∧ n ≠ 2 then 2 else if 8000 < len then 4 else 0
theorem znu (n : Int) (h1 : n ≠ 1) (h2 : n ≠ 2) : (n == 1) = false ∧ (n == 2) = false ∧ (n != 1) = true ∧ (n != 2) = true := by simp [h1, h2]
theorem zhx (n : Int) (A : Option Addr) (zs : List Int) (cap : Nat) (w : World) (hA : IntsAt w w.heap.size .i16 A zs) (hz : Within (-32768) 32767 zs) :
 Calls Tryz.prog 87 #[.int .u8 n, .slice A zs.length cap] w fun e w' => ∃ (A' : Option Addr) (c' : Nat), e = .returned (.tuple #[.slice A' (packOut n zs).length c', .int .u8 (packErr n zs.length)]) ∧
  IntsAt w' w'.heap.size .u8 A' (packOut n zs) ∧ Below w.heap.size w w' := by
 by_cases h1 : n = 1
 · subst h1
   by_cases h8 : zs.length ≤ 8000
   · refine (zps A zs cap w hA hz h8).mono ?_
     rintro e w' ⟨A', c', rfl, h, hb⟩
     have e1 : packOut 1 zs = zs.map Cmp.muZ := by unfold packOut; rw [if_pos ⟨rfl, h8⟩]
     have e2 : packErr 1 zs.length = 0 := by unfold packErr; rw [if_neg (by simp), if_neg (by omega)]
     rw [e1, e2, List.length_map]
     exact ⟨A', c', rfl, h, hb⟩
   · refine (zez 1 A zs.length cap w (.inl rfl) (by omega)).mono ?_
     rintro e w' ⟨rfl, rfl⟩
     have e1 : packOut 1 zs = [] := by unfold packOut; rw [if_neg (by omega), if_neg (by omega)]
     have e2 : packErr 1 zs.length = 4 := by unfold packErr; rw [if_neg (by simp), if_pos (by omega)]
     rw [e1, e2]
     exact ⟨none, 0, rfl, IntsAt.nil, Below.refl _ _⟩
 · by_cases h2 : n = 2
   · subst h2
     by_cases h8 : zs.length ≤ 8000
     · refine (zry A zs cap w hA hz h8).mono ?_
       rintro e w' ⟨A', c', rfl, h, hb⟩
       have e1 : packOut 2 zs = zs.map Cmp.aZ := by unfold packOut; rw [if_neg (by omega), if_pos ⟨rfl, h8⟩]
       have e2 : packErr 2 zs.length = 0 := by unfold packErr; rw [if_neg (by simp), if_neg (by omega)]
       rw [e1, e2, List.length_map]
       exact ⟨A', c', rfl, h, hb⟩
     · refine (zez 2 A zs.length cap w (.inr rfl) (by omega)).mono ?_
       rintro e w' ⟨rfl, rfl⟩
       have e1 : packOut 2 zs = [] := by unfold packOut; rw [if_neg (by omega), if_neg (by omega)]
       have e2 : packErr 2 zs.length = 4 := by unfold packErr; rw [if_neg (by simp), if_pos (by omega)]
       rw [e1, e2]
       exact ⟨none, 0, rfl, IntsAt.nil, Below.refl _ _⟩
   · obtain ⟨hn1, hn2, hn3, hn4⟩ := znu n h1 h2
     refine (zpr n A zs.length cap w hn3 hn4).mono ?_
     rintro e w' ⟨rfl, rfl⟩
     have e1 : packOut n zs = [] := by unfold packOut; rw [if_neg (by omega), if_neg (by omega)]
     have e2 : packErr n zs.length = 2 := by unfold packErr; rw [if_pos ⟨h1, h2⟩]
     rw [e1, e2]
     exact ⟨none, 0, rfl, IntsAt.nil, Below.refl _ _⟩
end Go.Proofs.YtahbecinkciahaaGreat
namespace Go.Proofs.YtahbecinkciahaaGreat.Sb
open Go.RowKit
def decE (c : Int) (bs : List Int) (n : Int) : List Int × Int :=
 if c = 0 then (bs.map Cmp.fromMuZ, 0) else if c = 8 then (bs.map Cmp.fromAZ, 0) else ((Dlt.unpR bs n).1, (Dlt.unpR bs n).2.2.2)
def encE (c v i : Int) (zs : List Int) : List Int × (Int × Int) × Int :=
 if c = 0 then (zs.map Cmp.muZ, (v, i), 0) else if c = 8 then (zs.map Cmp.aZ, (v, i), 0) else ((Dlt.packR v i zs).1, ((Dlt.packR v i zs).2.1, (Dlt.packR v i zs).2.2.1), (Dlt.packR v i zs).2.2.2)
def tran (a b : Int) (bs : List Int) (v i : Int) : List Int × (Int × Int) × Int :=
 if speechB a = false ∨ speechB b = false then ([], (0, 0), 15) else if a = 96 ∧ bs.length < 4 then ([], (0, 0), 6) else
  if (decE a bs (2 * ((bs.length : Int) - 4))).2 ≠ 0 then ([], (0, 0), (decE a bs (2 * ((bs.length : Int) - 4))).2) else
   if (encE b v i (decE a bs (2 * ((bs.length : Int) - 4))).1).2.2 ≠ 0 then ([], (0, 0), (encE b v i (decE a bs (2 * ((bs.length : Int) - 4))).1).2.2) else encE b v i (decE a bs (2 * ((bs.length : Int) - 4))).1
def muB (z : Int) : Int := Cmp.muZ (Cmp.fromMuZ z)
end Go.Proofs.YtahbecinkciahaaGreat.Sb
namespace Go.Proofs.YtahbecinkciahaaGreat
attribute [local go_sem ↓] zac zad
attribute [local go_sem] zab zag
open Go.RowKit
theorem zfa (k : Int) (w : World) : Calls Tryz.prog 37 #[.int .u8 k] w fun e w' => e = .returned (.bool (speechB k)) ∧ Below w.heap.size w w' := by
 by_cases h0 : k = 0
 · subst h0
   go_enter Tryz.func37, Tryz.ntmps37
   go_wp2_with fail
   go_ret
   exact ⟨rfl, Below.refl _ _⟩
 by_cases h8 : k = 8
 · subst h8
   go_enter Tryz.func37, Tryz.ntmps37
   go_wp2_with fail
   go_ret
   exact ⟨rfl, Below.refl _ _⟩
 by_cases h96 : k = 96
 · subst h96
   go_enter Tryz.func37, Tryz.ntmps37
   go_wp2_with fail
   go_ret
   exact ⟨rfl, Below.refl _ _⟩
 rw [zdo (by omega)]
 go_enter Tryz.func37, Tryz.ntmps37
 go_wp2_with fail
 go_ret
 exact ⟨by first | rfl | simp [h0, h8, h96], Below.refl _ _⟩
theorem zkm (k : Int) (w : World) : Calls Tryz.prog 88 #[.int .u8 k] w fun e w' => e = .returned (.int .u8 (if k = 0 then 1 else 2)) ∧ Below w.heap.size w w' := by
 by_cases h0 : k = 0
 · subst h0
   go_enter Tryz.func88, Tryz.ntmps88
   go_wp2_with fail
   go_ret
   exact ⟨rfl, Below.refl _ _⟩
 rw [if_neg h0]
 go_enter Tryz.func88, Tryz.ntmps88
 go_wp2_with fail
 go_ret
 exact ⟨rfl, Below.refl _ _⟩
theorem IntsAt.set_ne2 {w : World} {B : Nat} {k : IntKind} {A : Option Addr} {zs : List Int} (h : IntsAt w B k A zs) {p : Addr} {v0 : Value} (hc : w.cell? p = some v0) (hk : ∀ z, v0 ≠ .int k z) (u : Value) : IntsAt (w.setCell p u) B k A zs := fun h0 => by
 obtain ⟨b, off, e, hlt, qc⟩ := h h0
 refine ⟨b, off, e, hlt, fun i hi => ?_⟩
 rw [World.cell?_setCell_other w p ⟨b, off + i, none⟩ u (fun e2 => ?_)]
 · exact qc i hi
 · have := qc i hi
   first
    | (rw [e2, hc] at this; injection this with this; exact hk _ this)
    | (rw [← e2, hc] at this; injection this with this; exact hk _ this)
def RDecR (d : List Int × Int) (w : World) (e : Ending) (w' : World) : Prop := ∃ (A' : Option Addr) (c' : Nat), e = .returned (.tuple #[.slice A' d.1.length c', .int .u8 d.2]) ∧ IntsAt w' w'.heap.size .i16 A' d.1 ∧ Below w.heap.size w w'
def REncR (d : List Int × (Int × Int) × Int) (w : World) (e : Ending) (w' : World) : Prop := ∃ (A' : Option Addr) (c' : Nat), e = .returned (.tuple #[.slice A' d.1.length c', .agg #[.int .i64 d.2.1.1, .int .i64 d.2.1.2], .int .u8 d.2.2]) ∧ IntsAt w' w'.heap.size .u8 A' d.1 ∧ Below w.heap.size w w'
theorem zti (v i : Int) (A : Option Addr) (zs : List Int) (c : Nat) (w : World) (hA : IntsAt w w.heap.size .i16 A zs) (hz : Within (-32768) 32767 zs) (h8 : zs.length ≤ 8000) : Calls Tryz.prog 31 #[.int .u8 0, .slice A zs.length c, .agg #[.int .i64 v, .int .i64 i]] w (REncR (Sb.encE 0 v i zs) w) := by
 have e1 : Sb.encE 0 v i zs = (zs.map Cmp.muZ, (v, i), 0) := by unfold Sb.encE; rw [if_pos rfl]
 rw [e1]
 clear e1
 have kU := H9 fun (W : World) hW => zhx 1 A zs c W hW hz
 rw [show packOut 1 zs = zs.map Cmp.muZ by unfold packOut; rw [if_pos ⟨rfl, h8⟩], show packErr 1 zs.length = 0 by unfold packErr; rw [if_neg (by decide), if_neg (by omega)]] at kU
 obtain ⟨EL, hEL⟩ : ∃ Z, Z = zs.map Cmp.muZ := ⟨_, rfl⟩
 rw [← hEL] at kU ⊢
 clear hEL
 have HA := H9 hA
 clear hA hz
 have B0 := H9 ((Blk.new w 24 #[.int .i64 v, .int .i64 i]).push (.cells #[.int .i64 0, .int .i64 0] 24))
 have B1 := H9 (Blk.new1 w (.cells #[.int .i64 v, .int .i64 i] 24) 24 #[.int .i64 0, .int .i64 0])
 have U := H9 (((Bel.refl w).push (.cells #[.int .i64 v, .int .i64 i] 24)).push (.cells #[.int .i64 0, .int .i64 0] 24))
 replace HA := H9 ((HA.out.push (.cells #[.int .i64 v, .int .i64 i] 24)).push (.cells #[.int .i64 0, .int .i64 0] 24))
 go_enter Tryz.func31, Tryz.ntmps31
 go_upto_region 1 with fail
 change Code.wp _ _ _ _ ((w.alloc (Obj.cells #[.int .i64 v, .int .i64 i] 24)).alloc (Obj.cells #[.int .i64 0, .int .i64 0] 24))
 obtain ⟨W, hW⟩ : ∃ W, W = (w.alloc (Obj.cells #[.int .i64 v, .int .i64 i] 24)).alloc (Obj.cells #[.int .i64 0, .int .i64 0] 24) := ⟨_, rfl⟩
 rw [← hW] at HA B0 B1 U ⊢
 clear hW
 go_wp2_with fail
 refine (zkm 0 _).mono ?_
 rintro e w1 ⟨rfl, hb⟩
 replace HA := H9 (HA.out.later hb)
 replace B0 := H9 (B0.out.later hb)
 replace B1 := H9 (B1.out.later hb)
 replace U := H9 (U.out.later hb)
 clear hb
 rw [if_pos rfl]
 go_wp2_with fail
 refine (kU.out _ HA.out).mono ?_
 rintro e w2 ⟨A2, c2, rfl, hI, hb⟩
 have HE := H9 hI
 replace B0 := H9 (B0.out.later hb)
 replace B1 := H9 (B1.out.later hb)
 replace U := H9 (U.out.later hb)
 clear hI hb kU HA
 have c0 := B0.out.at 0 _ rfl
 have c1 := B0.out.at 1 _ rfl
 have r0 := B1.out.at 0 _ rfl
 have r1 := B1.out.at 1 _ rfl
 have rz := B1.out.frozen
 go_upto_region 4 with fail
 go_region
 have RF := B1.out.set_ 0 (.int .i64 v)
 have RG := RF.set_ 1 (.int .i64 i)
 have q1 := RF.at 1 _ rfl
 have UF := zai (zai U.out (by simp) (.int .i64 v) (p := ⟨w.heap.size + 1, 0, none⟩)) (by simp) (.int .i64 i) (p := ⟨w.heap.size + 1, 1, none⟩)
 have RE := (HE.out.set_ne2 r0 (by intro z e; cases e) (.int .i64 v)).set_ne2 q1 (by intro z e; cases e) (.int .i64 i)
 go_wp2_with fail
 refine bodyPost_ret (v := .tuple #[.slice A2 EL.length c2, .agg #[.int .i64 v, .int .i64 i], .int .u8 0]) (zfe Tryz.results31 rfl rfl (run_loadVar_row (P := Tryz.prog) _ _ _ _ _ _ _ RG.drew Tryz.underlying24 rfl (by kernel_rfl)) rfl) rfl ⟨A2, c2, rfl, ?_, UF.drew⟩
 exact RE.more (by simp [World.setCell])
theorem ztj (v i : Int) (A : Option Addr) (zs : List Int) (c : Nat) (w : World) (hA : IntsAt w w.heap.size .i16 A zs) (hz : Within (-32768) 32767 zs) (h8 : zs.length ≤ 8000) : Calls Tryz.prog 31 #[.int .u8 8, .slice A zs.length c, .agg #[.int .i64 v, .int .i64 i]] w (REncR (Sb.encE 8 v i zs) w) := by
 have e1 : Sb.encE 8 v i zs = (zs.map Cmp.aZ, (v, i), 0) := by unfold Sb.encE; rw [if_neg (by decide), if_pos rfl]
 rw [e1]
 clear e1
 have kU := H9 fun (W : World) hW => zhx 2 A zs c W hW hz
 rw [show packOut 2 zs = zs.map Cmp.aZ by unfold packOut; rw [if_neg (fun h => absurd h.1 (by decide)), if_pos ⟨rfl, h8⟩], show packErr 2 zs.length = 0 by unfold packErr; rw [if_neg (by decide), if_neg (by omega)]] at kU
 obtain ⟨EL, hEL⟩ : ∃ Z, Z = zs.map Cmp.aZ := ⟨_, rfl⟩
 rw [← hEL] at kU ⊢
 clear hEL
 have HA := H9 hA
 clear hA hz
 have B0 := H9 ((Blk.new w 24 #[.int .i64 v, .int .i64 i]).push (.cells #[.int .i64 0, .int .i64 0] 24))
 have B1 := H9 (Blk.new1 w (.cells #[.int .i64 v, .int .i64 i] 24) 24 #[.int .i64 0, .int .i64 0])
 have U := H9 (((Bel.refl w).push (.cells #[.int .i64 v, .int .i64 i] 24)).push (.cells #[.int .i64 0, .int .i64 0] 24))
 replace HA := H9 ((HA.out.push (.cells #[.int .i64 v, .int .i64 i] 24)).push (.cells #[.int .i64 0, .int .i64 0] 24))
 go_enter Tryz.func31, Tryz.ntmps31
 go_upto_region 1 with fail
 change Code.wp _ _ _ _ ((w.alloc (Obj.cells #[.int .i64 v, .int .i64 i] 24)).alloc (Obj.cells #[.int .i64 0, .int .i64 0] 24))
 obtain ⟨W, hW⟩ : ∃ W, W = (w.alloc (Obj.cells #[.int .i64 v, .int .i64 i] 24)).alloc (Obj.cells #[.int .i64 0, .int .i64 0] 24) := ⟨_, rfl⟩
 rw [← hW] at HA B0 B1 U ⊢
 clear hW
 go_wp2_with fail
 refine (zkm 8 _).mono ?_
 rintro e w1 ⟨rfl, hb⟩
 replace HA := H9 (HA.out.later hb)
 replace B0 := H9 (B0.out.later hb)
 replace B1 := H9 (B1.out.later hb)
 replace U := H9 (U.out.later hb)
 clear hb
 rw [if_neg (by decide)]
 go_wp2_with fail
 refine (kU.out _ HA.out).mono ?_
 rintro e w2 ⟨A2, c2, rfl, hI, hb⟩
 have HE := H9 hI
 replace B0 := H9 (B0.out.later hb)
 replace B1 := H9 (B1.out.later hb)
 replace U := H9 (U.out.later hb)
 clear hI hb kU HA
 have c0 := B0.out.at 0 _ rfl
 have c1 := B0.out.at 1 _ rfl
 have r0 := B1.out.at 0 _ rfl
 have r1 := B1.out.at 1 _ rfl
 have rz := B1.out.frozen
 go_upto_region 4 with fail
 go_region
 have RF := B1.out.set_ 0 (.int .i64 v)
 have RG := RF.set_ 1 (.int .i64 i)
 have q1 := RF.at 1 _ rfl
 have UF := zai (zai U.out (by simp) (.int .i64 v) (p := ⟨w.heap.size + 1, 0, none⟩)) (by simp) (.int .i64 i) (p := ⟨w.heap.size + 1, 1, none⟩)
 have RE := (HE.out.set_ne2 r0 (by intro z e; cases e) (.int .i64 v)).set_ne2 q1 (by intro z e; cases e) (.int .i64 i)
 go_wp2_with fail
 refine bodyPost_ret (v := .tuple #[.slice A2 EL.length c2, .agg #[.int .i64 v, .int .i64 i], .int .u8 0]) (zfe Tryz.results31 rfl rfl (run_loadVar_row (P := Tryz.prog) _ _ _ _ _ _ _ RG.drew Tryz.underlying24 rfl (by kernel_rfl)) rfl) rfl ⟨A2, c2, rfl, ?_, UF.drew⟩
 exact RE.more (by simp [World.setCell])
theorem zrz (v i : Int) (A : Option Addr) (zs : List Int) (c : Nat) (w : World) (hA : IntsAt w w.heap.size .i16 A zs) (hz : Within (-32768) 32767 zs) (h8 : zs.length ≤ 8000) : Calls Tryz.prog 31 #[.int .u8 96, .slice A zs.length c, .agg #[.int .i64 v, .int .i64 i]] w (REncR (Sb.encE 96 v i zs) w) := by
 have e1 : Sb.encE 96 v i zs = ((Dlt.packR v i zs).1, ((Dlt.packR v i zs).2.1, (Dlt.packR v i zs).2.2.1), (Dlt.packR v i zs).2.2.2) := by unfold Sb.encE; rw [if_neg (by decide), if_neg (by decide)]
 rw [e1]
 clear e1
 have kU := H9 fun (W : World) hW => zob v i W A zs c hW hz
 generalize Dlt.packR v i zs = P at *
 obtain ⟨EL, P2, P3, P4⟩ := P
 dsimp only at kU ⊢
 have HA := H9 hA
 clear hA hz
 have B0 := H9 ((Blk.new w 24 #[.int .i64 v, .int .i64 i]).push (.cells #[.int .i64 0, .int .i64 0] 24))
 have B1 := H9 (Blk.new1 w (.cells #[.int .i64 v, .int .i64 i] 24) 24 #[.int .i64 0, .int .i64 0])
 have U := H9 (((Bel.refl w).push (.cells #[.int .i64 v, .int .i64 i] 24)).push (.cells #[.int .i64 0, .int .i64 0] 24))
 replace HA := H9 ((HA.out.push (.cells #[.int .i64 v, .int .i64 i] 24)).push (.cells #[.int .i64 0, .int .i64 0] 24))
 go_enter Tryz.func31, Tryz.ntmps31
 go_upto_region 1 with fail
 change Code.wp _ _ _ _ ((w.alloc (Obj.cells #[.int .i64 v, .int .i64 i] 24)).alloc (Obj.cells #[.int .i64 0, .int .i64 0] 24))
 obtain ⟨W, hW⟩ : ∃ W, W = (w.alloc (Obj.cells #[.int .i64 v, .int .i64 i] 24)).alloc (Obj.cells #[.int .i64 0, .int .i64 0] 24) := ⟨_, rfl⟩
 rw [← hW] at HA B0 B1 U ⊢
 clear hW
 have s0 := B0.out.at 0 _ rfl
 have s1 := B0.out.at 1 _ rfl
 go_upto_region 2 with fail
 go_wp2_with fail
 refine (kU.out _ HA.out).mono ?_
 rintro e w2 ⟨A2, c2, rfl, hI, hb⟩
 have HE := H9 hI
 replace B1 := H9 (B1.out.later hb)
 replace U := H9 (U.out.later hb)
 clear hI hb kU HA s0 s1 B0
 have r0 := B1.out.at 0 _ rfl
 have r1 := B1.out.at 1 _ rfl
 have rz := B1.out.frozen
 have RF := B1.out.set_ 0 (.int .i64 P2)
 have RG := RF.set_ 1 (.int .i64 P3)
 have q1 := RF.at 1 _ rfl
 have UF := zai (zai U.out (by simp) (.int .i64 P2) (p := ⟨w.heap.size + 1, 0, none⟩)) (by simp) (.int .i64 P3) (p := ⟨w.heap.size + 1, 1, none⟩)
 have RE := (HE.out.set_ne2 r0 (by intro z e; cases e) (.int .i64 P2)).set_ne2 q1 (by intro z e; cases e) (.int .i64 P3)
 go_wp2_with fail
 refine bodyPost_ret (v := .tuple #[.slice A2 EL.length c2, .agg #[.int .i64 P2, .int .i64 P3], .int .u8 P4]) (zfe Tryz.results31 rfl rfl (run_loadVar_row (P := Tryz.prog) _ _ _ _ _ _ _ RG Tryz.underlying24 rfl (by kernel_rfl)) rfl) rfl ⟨A2, c2, rfl, ?_, UF⟩
 exact RE.more (by simp [World.setCell])
theorem zpt (k : Int) (hk : speechB k = true) (v i : Int) (A : Option Addr) (zs : List Int) (c : Nat) (w : World) (hA : IntsAt w w.heap.size .i16 A zs) (hz : Within (-32768) 32767 zs) (h8 : zs.length ≤ 8000) : Calls Tryz.prog 31 #[.int .u8 k, .slice A zs.length c, .agg #[.int .i64 v, .int .i64 i]] w (REncR (Sb.encE k v i zs) w) := by
 rcases zbq.1 hk with rfl | rfl | rfl
 · exact zti v i A zs c w hA hz h8
 · exact ztj v i A zs c w hA hz h8
 · exact zrz v i A zs c w hA hz h8
theorem zpu (k src l m : Int) (h0 : 0 ≤ k) (h1 : k ≤ 255) (w : World) : Calls Tryz.prog 20 #[.int .u8 k, .int .u32 src, .agg #[.int .i64 l, .int .i64 m]] w (NewP k src l m w) := by
 have BC := H9 ((Blk.new w 37 #[.int .i64 l, .int .i64 m]).push (.cells (PA Sb.Pt.zero none 0 0) 48))
 have B1 := H9 (Blk.new1 w (.cells #[.int .i64 l, .int .i64 m] 37) 48 (PA Sb.Pt.zero none 0 0))
 have U0 := H9 (((Bel.refl w).push (.cells #[.int .i64 l, .int .i64 m] 37)).push (.cells (PA Sb.Pt.zero none 0 0) 48))
 have k1 := H9 fun W => zfa k W
 have k2 := H9 fun W => zqr l m W
 unfold NewR at k2
 obtain ⟨v, hv⟩ : ∃ v, v = speechB k := ⟨_, rfl⟩
 rw [← hv] at k1
 have HV := H9 hv
 clear hv
 go_enter Tryz.func20, Tryz.ntmps20
 go_upto_region 1 with fail
 change Code.wp _ _ _ _ ((w.alloc (Obj.cells #[.int .i64 l, .int .i64 m] 37)).alloc (Obj.cells (PA Sb.Pt.zero none 0 0) 48))
 obtain ⟨W, hW⟩ : ∃ W, W = (w.alloc (Obj.cells #[.int .i64 l, .int .i64 m] 37)).alloc (Obj.cells (PA Sb.Pt.zero none 0 0) 48) := ⟨_, rfl⟩
 rw [← hW] at BC B1 U0 ⊢
 clear hW
 go_wp2_with fail
 refine (k1.out _).mono ?_
 rintro e w1 ⟨rfl, hb1⟩
 replace U0 := H9 (U0.out.later hb1)
 replace BC := H9 (BC.out.later hb1)
 replace B1 := H9 (B1.out.later hb1)
 have hlt := B1.out.lt
 clear hb1
 cases v
 · have HN : Hid (Sb.new k src l m = (Sb.Pt.zero, 15)) := H9 (by unfold Sb.new; rw [← HV.out, if_pos rfl])
   go_wp2_with (first | (refine zaf rfl 48 (.tmp 6) (.tmp 13) rfl (w.heap.size + 1) 0 rfl 48 (PL Sb.Pt.zero none 0 0) B1.out (PL Sb.Pt.zero none 0 0) rfl zah (show 0 + 48 ≤ 48 by decide) rfl (PL Sb.Pt.zero none 0 0) rfl ?_; intro WH BH OH) | fail)
   refine bodyPost_ret (v := .tuple #[.agg (PA (Sb.new k src l m).1 none 0 0), .int .u8 (Sb.new k src l m).2]) (zat Tryz.results20 rfl (by rw [HN.out]; exact PB.load BH) (by rw [HN.out]; rfl)) rfl ⟨rfl, OH.bel U0.out (by omega)⟩
 have c0 := BC.out.at 0 _ rfl
 have c1 := BC.out.at 1 _ rfl
 go_wp2_with fail
 refine (k2.out _).mono ?_
 rintro e w2 ⟨rfl, hb2⟩
 replace U0 := H9 (U0.out.later hb2)
 replace B1 := H9 (B1.out.later hb2)
 have HN : Hid (Sb.new k src l m = (if (Jb.new l m).2 = 0 then { Sb.Pt.zero with codec := k, src := src, mrk := true, jt := (Jb.new l m).1, seed := src } else Sb.Pt.zero, (Jb.new l m).2)) := H9 (by
  unfold Sb.new Jb.new
  rw [← HV.out, if_neg (by decide)]
  by_cases hc : Jb.cfg l m
  · rw [if_pos hc, if_pos hc]; rfl
  · rw [if_neg hc, if_neg hc]; rfl)
 have hus := U0.out.size
 clear hb2 c0 c1
 unfold JV
 generalize Jb.new l m = R at *
 obtain ⟨R1, R2⟩ := R
 simp only at HN
 have BJ := H9 (Blk.new w2 40 (JW R1 none 0 0).toArray)
 obtain ⟨g1, hg1⟩ : ∃ g, g = w2.heap.size := ⟨_, rfl⟩
 obtain ⟨W3, hW3⟩ : ∃ W, W = w2.alloc (.cells (JW R1 none 0 0).toArray 40) := ⟨_, rfl⟩
 have BB := H9 (show Below w2.heap.size w2 W3 by rw [hW3]; exact (Below.refl _ _).alloc (Nat.le_refl _) _)
 rw [← hg1, ← hW3] at BJ
 go_upto_region 4 with fail
 rw [← hg1]
 change Code.wp _ _ _ _ (w2.alloc (Obj.cells (JW R1 none 0 0).toArray 40))
 rw [← hW3]
 replace U0 := H9 (U0.out.later BB.out)
 replace B1 := H9 (B1.out.later BB.out)
 clear hW3 hg1 BB
 by_cases hr : R2 = 0
 rotate_left
 · replace HN := H9 (HN.out.trans (by rw [if_neg hr]))
   go_wp2_with (first | (refine zaf rfl 48 (.tmp 6) (.tmp 21) rfl (w.heap.size + 1) 0 rfl 48 (PL Sb.Pt.zero none 0 0) B1.out (PL Sb.Pt.zero none 0 0) rfl zah (show 0 + 48 ≤ 48 by decide) rfl (PL Sb.Pt.zero none 0 0) rfl ?_; intro WH BH OH) | fail)
   refine bodyPost_ret (v := .tuple #[.agg (PA (Sb.new k src l m).1 none 0 0), .int .u8 (Sb.new k src l m).2]) (zat Tryz.results20 rfl (by rw [HN.out]; exact PB.load BH) (by rw [HN.out]; rfl)) rfl ⟨rfl, OH.bel U0.out (by omega)⟩
 subst hr
 replace HN := H9 (HN.out.trans (by rw [if_pos rfl]))
 go_wp2_with (first | (refine zae rfl 40 (.tmp 8) rfl (g1) 0 rfl 40 (JW R1 none 0 0) BJ.out 14 _ Tryz.underlying40 zbc (show 0 + 14 ≤ 14 by decide) (#[.int .i64 R1.least, .int .i64 R1.most, .int .i64 R1.now, .bool R1.on, .int .i64 R1.zero, .int .i64 R1.first, .int .i64 R1.high, .int .i64 R1.done, .int .i64 R1.spread, .int .i64 R1.trans, .slice none 0 0, .int .i64 R1.late, .int .i64 R1.twice, .int .i64 R1.played]) (by rfl) rfl ?_) | (refine zaf rfl 48 (.tmp 6) (.tmp 27) rfl (w.heap.size + 1) 0 rfl 48 (PL Sb.Pt.zero none 0 0) B1.out (PL { Sb.Pt.zero with codec := k, src := src, mrk := true, jt := R1, seed := src } none 0 0) rfl zah (show 0 + 48 ≤ 48 by decide) rfl (PL { Sb.Pt.zero with codec := k, src := src, mrk := true, jt := R1, seed := src } none 0 0) rfl ?_; intro WH BH OH) | fail)
 refine bodyPost_ret (v := .tuple #[.agg (PA (Sb.new k src l m).1 none 0 0), .int .u8 (Sb.new k src l m).2]) (zat Tryz.results20 rfl (by rw [HN.out]; exact PB.load BH) (by rw [HN.out]; rfl)) rfl ⟨rfl, OH.bel U0.out (by omega)⟩
theorem ziu (v i : Int) (w : World) : Calls Tryz.prog 67 #[.agg #[.int .i64 v, .int .i64 i]] w fun e w' => e = .returned (.bool (Dlt.valid v i)) ∧ Below w.heap.size w w' := by
 refine (zcy v i w).mono ?_
 rintro e w' ⟨rfl, rfl⟩
 exact ⟨rfl, (Below.refl _ _).alloc (Nat.le_refl _) _⟩
def tkB (t : Pk.Tr) : Bool := decide (0 ≤ t.high ∧ t.high ≤ 281474976710656 ∧ -1 ≤ t.jump ∧ t.jump ≤ 65535)
theorem zlt (t : Pk.Tr) (w : World) : Calls Tryz.prog 70 #[.agg #[.bool t.on, .int .i64 t.high, .int .i64 t.jump]] w fun e w' => e = .returned (.bool (tkB t)) ∧ Below w.heap.size w w' := by
 unfold tkB
 by_cases h : 0 ≤ t.high ∧ t.high ≤ 281474976710656 ∧ -1 ≤ t.jump ∧ t.jump ≤ 65535
 · rw [decide_eq_true h]
   exact zok t.high t.jump w t.on h.1 h.2.1 h.2.2.1 h.2.2.2
 · rw [decide_eq_false h]
   exact zol t.high t.jump w t.on h
theorem zch (p : Sb.Pt) (A : Option Addr) (l : List TW) (n c : Nat) (X : Array Value) (hX : X = PA p A n c) (w : World) (hq : l.map TW.w = p.jt.q) (hn : l.length = n) (hl : n ≤ 100000) (hA : Wts w w.heap.size A l) (hP : ∀ a ∈ l, a.w.m.pl.length ≤ 1000000000) (v : Bool) (hv : v = p.valid) : Calls Tryz.prog 22 #[.agg X] w fun e w' => e = .returned (.bool v) ∧ Below w.heap.size w w' := by
 have PB0 := H9 (PB.new w X hX)
 have U0 := H9 ((Bel.refl w).push (.cells X 48))
 have HA := H9 hA
 have HV := H9 hv
 obtain ⟨v1, hv1⟩ : ∃ v, v = speechB p.codec := ⟨_, rfl⟩
 obtain ⟨v2, hv2⟩ : ∃ v, v = Dlt.valid p.cv p.ci := ⟨_, rfl⟩
 obtain ⟨v3, hv3⟩ : ∃ v, v = Jb.valid p.jt := ⟨_, rfl⟩
 obtain ⟨v4, hv4⟩ : ∃ v, v = p.tn.valid := ⟨_, rfl⟩
 obtain ⟨v5, hv5⟩ : ∃ v, v = tkB p.tk := ⟨_, rfl⟩
 have k1 := H9 fun W => zfa p.codec W
 have k2 := H9 fun W => ziu p.cv p.ci W
 have k3 := H9 fun (W : World) hW => zpq p.jt A l n c W hq hn hl hW hP v3 hv3
 have k4 : ∀ W, Calls Tryz.prog 68 #[.agg #[.bool p.tn.on, .int .u8 p.tn.code, .int .u8 p.tn.vol, .int .u32 p.tn.start, .int .i64 p.tn.len, .int .i64 p.tn.ends]] W fun e w' => e = .returned (.bool p.tn.valid) ∧ Below W.heap.size W w' := fun W => by
  refine (zaq p.tn.on p.tn.code p.tn.vol p.tn.start p.tn.len p.tn.ends W).mono ?_
  rintro e w' ⟨rfl, h⟩
  exact ⟨rfl, by first | exact h | (subst h; exact Below.refl _ _) | (subst h; exact (Below.refl _ _).alloc (Nat.le_refl _) _)⟩
 have k5 := H9 fun W => zlt p.tk W
 rw [← hv1] at k1
 rw [← hv2] at k2
 rw [← hv4] at k4
 rw [← hv5] at k5
 replace k4 := H9 k4
 have H1 := H9 hv1
 have H2 := H9 hv2
 have H3 := H9 hv3
 have H4 := H9 hv4
 have H5 := H9 hv5
 clear hX hA hv hP hq hv1 hv2 hv3 hv4 hv5
 go_enter Tryz.func22, Tryz.ntmps22
 go_upto_region 1 with fail
 obtain ⟨W, hW⟩ : ∃ W, W = w.alloc (Obj.cells X 48) := ⟨_, rfl⟩
 rw [← hW] at PB0 U0 ⊢
 clear hW
 obtain ⟨g, hg⟩ : ∃ g, g = w.heap.size := ⟨_, rfl⟩
 rw [← hg] at PB0 ⊢
 clear hg
 have c0 := PB0.out.cell 0 _ rfl
 go_wp2_with fail
 refine (k1.out _).mono ?_
 rintro e wq ⟨rfl, hb1⟩
 replace U0 := H9 (U0.out.later hb1)
 replace PB0 := H9 (PB0.out.later hb1)
 clear hb1 k1
 clear c0
 cases v1
 · obtain rfl : v = false := by rw [HV.out]; unfold Sb.Pt.valid; rw [← H1.out]; rfl
   go_wp2_with fail
   go_ret
   exact ⟨rfl, U0.out⟩
 obtain ⟨x6, x7⟩ := PB0.out.cd
 go_wp2_with fail
 refine (k2.out _).mono ?_
 rintro e wq ⟨rfl, hb1⟩
 replace U0 := H9 (U0.out.later hb1)
 replace PB0 := H9 (PB0.out.later hb1)
 clear hb1 k2
 clear x6 x7
 cases v2
 · obtain rfl : v = false := by rw [HV.out]; unfold Sb.Pt.valid; rw [← H2.out]; simp
   go_wp2_with fail
   go_ret
   exact ⟨rfl, U0.out⟩
 obtain ⟨x8, x9, x10, x11, x12, x13⟩ := PB0.out.tn
 go_wp2_with fail
 refine (k4.out _).mono ?_
 rintro e wq ⟨rfl, hb1⟩
 replace U0 := H9 (U0.out.later hb1)
 replace PB0 := H9 (PB0.out.later hb1)
 clear hb1 k4
 clear x8 x9 x10 x11 x12 x13
 cases v4
 · obtain rfl : v = false := by rw [HV.out]; unfold Sb.Pt.valid; rw [← H4.out]; simp
   go_wp2_with fail
   go_ret
   exact ⟨rfl, U0.out⟩
 obtain ⟨x14, x15, x16, x17, x18, x19, x20, x21, x22, x23, x24, x25, x26, x27⟩ := PB0.out.jt
 go_wp2_with fail
 refine (k3.out _ (HA.out.later U0.out)).mono ?_
 rintro e wq ⟨rfl, hb1⟩
 replace U0 := H9 (U0.out.later hb1)
 replace PB0 := H9 (PB0.out.later hb1)
 clear hb1 k3
 clear x14 x15 x16 x17 x18 x19 x20 x21 x22 x23 x24 x25 x26 x27 HA
 cases v3
 · obtain rfl : v = false := by rw [HV.out]; unfold Sb.Pt.valid; rw [← H3.out]; simp
   go_wp2_with fail
   go_ret
   exact ⟨rfl, U0.out⟩
 have HV2 : Hid (v = decide p.near) := H9 (by rw [HV.out]; unfold Sb.Pt.valid; rw [← H1.out, ← H2.out, ← H3.out, ← H4.out]; rfl)
 obtain ⟨x28, x29, x30⟩ := PB0.out.tk
 go_wp2_with fail
 refine (k5.out _).mono ?_
 rintro e wq ⟨rfl, hb1⟩
 replace U0 := H9 (U0.out.later hb1)
 replace PB0 := H9 (PB0.out.later hb1)
 clear hb1 k5
 clear x28 x29 x30
 obtain ⟨x28, x29, x30⟩ := PB0.out.tk
 have x31 := PB0.out.cell 31 _ rfl
 cases v5
 · obtain rfl : v = false := by
    rw [HV2.out, decide_eq_false_iff_not]
    have h5 := H5.out.symm
    unfold tkB at h5
    rw [decide_eq_false_iff_not] at h5
    unfold Sb.Pt.near; omega
   go_wp2_with fail
   go_ret
   exact ⟨rfl, U0.out⟩
 have h5 := H5.out.symm
 unfold tkB at h5
 rw [decide_eq_true_iff] at h5
 obtain ⟨t0, t1, t2, t3⟩ := h5
 have T := H9 (show 0 ≤ p.tk.high ∧ -1 ≤ p.tk.jump ∧ p.tk.jump ≤ 65535 from ⟨t0, t2, t3⟩)
 clear t0 t1 t2 t3
 by_cases u1 : p.tk.high ≤ 140737488355328
 rotate_left
 · obtain rfl : v = false := by rw [HV2.out, decide_eq_false_iff_not]; unfold Sb.Pt.near; omega
   have d := decide_eq_false u1
   replace u1 := Int.not_le.1 u1
   go_wp2_with fail
   go_ret
   exact ⟨rfl, U0.out⟩
 by_cases u2 : -140737488355328 ≤ p.ht
 rotate_left
 · obtain rfl : v = false := by rw [HV2.out, decide_eq_false_iff_not]; unfold Sb.Pt.near; omega
   have d := decide_eq_false u2
   replace u2 := Int.not_le.1 u2
   go_wp2_with fail
   go_ret
   exact ⟨rfl, U0.out⟩
 by_cases u3 : p.ht ≤ 140737488355328
 rotate_left
 · obtain rfl : v = false := by rw [HV2.out, decide_eq_false_iff_not]; unfold Sb.Pt.near; omega
   have d := decide_eq_false u3
   replace u3 := Int.not_le.1 u3
   go_wp2_with fail
   go_ret
   exact ⟨rfl, U0.out⟩
 obtain rfl : v = true := by rw [HV2.out, decide_eq_true_iff]; have := T.out; unfold Sb.Pt.near; omega
 go_wp2_with fail
 go_ret
 exact ⟨rfl, U0.out⟩
theorem zcz {w : World} {q : Sb.Pt} {A B : Option Addr} {n m c d : Nat} (hA : PW w q A n) (hB : PW w q B m) (hn : n ≤ 1000000) : Calls Tryz.prog 13 #[.agg (PA q A n c), .agg (PA q B m d)] w fun e w' => e = .returned (.bool true) ∧ Below w.heap.size w w' := by
 obtain ⟨l1, q1, n1, w1⟩ := hA
 obtain ⟨l2, q2, n2, w2⟩ := hB
 obtain rfl : n = m := by have h := congrArg List.length (q1.trans q2.symm); simp at h; omega
 obtain ⟨X, hX⟩ : ∃ X, X = PA q A n c := ⟨_, rfl⟩
 obtain ⟨Y, hY⟩ : ∃ X, X = PA q B n d := ⟨_, rfl⟩
 rw [← hX, ← hY]
 have B0 := H9 ((PB.new w X hX).push (.cells Y 48))
 have B1 := H9 (show PB ((w.alloc (Obj.cells X 48)).alloc (Obj.cells Y 48)) (w.heap.size + 1) q B n d by rw [hY]; exact Blk.new1 _ _ _ _)
 have U := H9 (((Bel.refl w).push (.cells X 48)).push (.cells Y 48))
 have k1 := H9 fun (W : World) h1 h2 => znt q.jt A B l1 l2 n c d W n1 (q1.trans q2.symm) hn h1 h2
 have H1 := H9 (w1.later U.out)
 have H2 := H9 (w2.later U.out)
 clear hX hY q1 q2 n1 n2 w1 w2
 go_enter Tryz.func13, Tryz.ntmps13
 go_upto_region 1 with fail
 change Code.wp _ _ _ _ ((w.alloc (Obj.cells X 48)).alloc (Obj.cells Y 48))
 obtain ⟨W, hW⟩ : ∃ W, W = (w.alloc (Obj.cells X 48)).alloc (Obj.cells Y 48) := ⟨_, rfl⟩
 rw [← hW] at B0 B1 U H1 H2 ⊢
 clear hW
 have x0 := B0.out.cell 0 _ rfl
 have x1 := B0.out.cell 1 _ rfl
 have x2 := B0.out.cell 2 _ rfl
 have x3 := B0.out.cell 3 _ rfl
 have x4 := B0.out.cell 4 _ rfl
 have x5 := B0.out.cell 5 _ rfl
 have x31 := B0.out.cell 31 _ rfl
 have x45 := B0.out.cell 45 _ rfl
 have x46 := B0.out.cell 46 _ rfl
 have x47 := B0.out.cell 47 _ rfl
 have y0 := B1.out.cell 0 _ rfl
 have y1 := B1.out.cell 1 _ rfl
 have y2 := B1.out.cell 2 _ rfl
 have y3 := B1.out.cell 3 _ rfl
 have y4 := B1.out.cell 4 _ rfl
 have y5 := B1.out.cell 5 _ rfl
 have y31 := B1.out.cell 31 _ rfl
 have y45 := B1.out.cell 45 _ rfl
 have y46 := B1.out.cell 46 _ rfl
 have y47 := B1.out.cell 47 _ rfl
 obtain ⟨x6, x7⟩ := B0.out.cd
 obtain ⟨x8, x9, x10, x11, x12, x13⟩ := B0.out.tn
 obtain ⟨x28, x29, x30⟩ := B0.out.tk
 obtain ⟨x32, x33, x34, x35, x36, x37, x38, x39⟩ := B0.out.st
 obtain ⟨x40, x41, x42, x43, x44⟩ := B0.out.hd
 obtain ⟨y6, y7⟩ := B1.out.cd
 obtain ⟨y8, y9, y10, y11, y12, y13⟩ := B1.out.tn
 obtain ⟨y28, y29, y30⟩ := B1.out.tk
 obtain ⟨y32, y33, y34, y35, y36, y37, y38, y39⟩ := B1.out.st
 obtain ⟨y40, y41, y42, y43, y44⟩ := B1.out.hd
 go_upto_region 3 with fail
 clear x0 x1 x2 x3 x4 x5 x6 x7 x8 x9 x10 x11 x12 x13 x28 x29 x30 x31 x32 x33 x34 x35 x36 x37 x38 x39 x40 x41 x42 x43 x44 x45 x46 x47 y0 y1 y2 y3 y4 y5 y6 y7 y8 y9 y10 y11 y12 y13 y28 y29 y30 y31 y32 y33 y34 y35 y36 y37 y38 y39 y40 y41 y42 y43 y44 y45 y46 y47
 go_wp2_with (first | (refine zae rfl 40 (.tmp 108) rfl (w.heap.size) 14 rfl 48 (PL q A n c) B0.out 14 _ Tryz.underlying40 zbc (show 14 + 14 ≤ 48 by decide) (#[.int .i64 q.jt.least, .int .i64 q.jt.most, .int .i64 q.jt.now, .bool q.jt.on, .int .i64 q.jt.zero, .int .i64 q.jt.first, .int .i64 q.jt.high, .int .i64 q.jt.done, .int .i64 q.jt.spread, .int .i64 q.jt.trans, .slice A n c, .int .i64 q.jt.late, .int .i64 q.jt.twice, .int .i64 q.jt.played]) (by rfl) rfl ?_) | (refine zae rfl 40 (.tmp 110) rfl (w.heap.size + 1) 14 rfl 48 (PL q B n d) B1.out 14 _ Tryz.underlying40 zbc (show 14 + 14 ≤ 48 by decide) (#[.int .i64 q.jt.least, .int .i64 q.jt.most, .int .i64 q.jt.now, .bool q.jt.on, .int .i64 q.jt.zero, .int .i64 q.jt.first, .int .i64 q.jt.high, .int .i64 q.jt.done, .int .i64 q.jt.spread, .int .i64 q.jt.trans, .slice B n d, .int .i64 q.jt.late, .int .i64 q.jt.twice, .int .i64 q.jt.played]) (by rfl) rfl ?_) | fail)
 refine (k1.out _ H1.out H2.out).mono ?_
 rintro e w1 ⟨rfl, hb1⟩
 have U2 := U.out.later hb1
 clear hb1
 go_wp2_with fail
 go_ret
 exact ⟨rfl, U2⟩
end Go.Proofs.YtahbecinkciahaaGreat
namespace Go.Proofs.YtahbecinkciahaaGreat
open Go.RowKit
theorem zcp {P : Program} {ops : Array Oper} {rest : List Oper} {o : Oper} {a : Act} {w : World} {Q : Exit → Act → World → Prop} (hw : Region.wanted o (yielded ops a.tmps) = true) (ty : TypeId) (x : Operand) (ho : o.op = .load ty x) (g i : Nat) (hx : a.eval x = .pointer (some ⟨g, i, none⟩)) (t : TypeId) (cs : List Value) (hg : Blk w g t cs.toArray) (n : Nat) (d : TypeDesc) (hu : P.underlying ty = some d) (hi : (P.info? ty).map (·.size) = some n) (hn : i + n ≤ cs.length) (vs : Array Value) (hv : (partS cs i n).toArray = vs) (hd : aggT d = true)
 (h : wpList P ops Q rest (a.put o.dst (.agg vs)) w) : wpList P ops Q (o :: rest) a w := by
 subst hv
 refine wpList_step fun K hK => ?_
 rw [if_pos hw]
 unfold Oper.wp execOp
 simp only [ho, hx, Instr.loadAt, Instr.sureAddr, Sem.run_bind, Sem.run_pure, Result.andThen_ok, zbo hg i n hd hu hi hn]
 exact hK _ _ h
theorem zcb {P : Program} {ops : Array Oper} {o : Oper} {a : Act} {S : World → Prop} (hw : Region.wanted o (yielded ops a.tmps) = true) (ty : TypeId) (x : Operand) (ho : o.op = .load ty x) (g i : Nat) (hx : a.eval x = .pointer (some ⟨g, i, none⟩)) (t : TypeId) (cs : List Value) (hg : ∀ w, S w → Blk w g t cs.toArray) (n : Nat) (d : TypeDesc) (hu : P.underlying ty = some d) (hi : (P.info? ty).map (·.size) = some n) (hn : i + n ≤ cs.length) (vs : Array Value) (hv : (partS cs i n).toArray = vs) (hd : aggT d = true) : YieldsIf P ops S o (.agg vs) a := by
 subst hv
 refine Or.inl ⟨hw, fun w hS => ?_⟩
 unfold execOp
 simp only [ho, hx, Instr.loadAt, Instr.sureAddr, Sem.run_bind, Sem.run_pure, Result.andThen_ok, zbo (hg w hS) i n hd hu hi hn]
theorem zpv (p : Sb.Pt) (zs : List Int) : (Sb.send0 p zs).1.jt = p.jt ∧ (Sb.send0 p zs).2.length ≤ 1 := by
 unfold Sb.send0
 split
 · exact ⟨rfl, Nat.le_refl _⟩
 · split
   · split
     · exact ⟨rfl, Nat.le_refl _⟩
     · exact ⟨rfl, Nat.zero_le _⟩
   · exact ⟨rfl, Nat.le_refl _⟩
theorem zlu (p : Sb.Pt) (zs : List Int) (h : p.jt.q.length ≤ 100000) : (Sb.send p zs).1.jt.q.length ≤ 1000000 ∧ (Sb.send p zs).2.1.length ≤ 100000 := by
 unfold Sb.send
 split
 · obtain ⟨h1, h2⟩ := zpv p zs
   dsimp only
   rw [h1]
   omega
 · exact ⟨by decide, by decide⟩
theorem ziv (p : Sb.Pt) (code : Int) (h : p.jt.q.length ≤ 100000) : (Sb.press p code).1.jt.q.length ≤ 1000000 := by
 unfold Sb.press
 repeat' split
 all_goals first | (show p.jt.q.length ≤ 1000000; omega) | exact Nat.zero_le _
theorem zgl (p : Sb.Pt) (h : p.jt.q.length ≤ 100000) : (Sb.release p).1.jt.q.length ≤ 1000000 := by
 unfold Sb.release
 repeat' split
 all_goals first | (show p.jt.q.length ≤ 1000000; omega) | exact Nat.zero_le _
theorem PW.small {W : World} {q : Sb.Pt} {A : Option Addr} {n : Nat} (h : PW W q A n) {m : Nat} (hq : q.jt.q.length ≤ m) : n ≤ m := by
 obtain ⟨l, h1, h2, _⟩ := h
 rw [← h1] at hq
 simp at hq
 omega
end Go.Proofs.YtahbecinkciahaaGreat
namespace Go.Proofs.YtahbecinkciahaaGreat
attribute [local go_sem ↓] zac zad
attribute [local go_sem] zab zag
open Go.RowKit
theorem ztk {w : World} {p : Sb.Pt} {A : Option Addr} {l : List TW} {n c : Nat} {ZA : Option Addr} {zs : List Int} {zc : Nat} {codec code cl cm : Int} {W : World} (C : LC w p A l n c ZA zs codec) (S : LS w W p A n c cl cm)
 (h : ∀ (W : World) (a : Act), LS w W p A n c cl cm → Fr 142 [(1, .int .u8 codec), (3, .slice ZA zs.length zc), (4, .int .u8 code), (5, .pointer (some ⟨w.heap.size, 0, none⟩)), (7, .pointer (some ⟨w.heap.size + 1, 0, none⟩))] a → firstWp Tryz.prog sd7_code (bodyPost Tryz.prog Tryz.f5 (fun e w' => e = .returned (.bool true) ∧ Below w.heap.size w w')) a W) (a : Act) (ha : Fr 142 [(1, .int .u8 codec), (3, .slice ZA zs.length zc), (4, .int .u8 code), (5, .pointer (some ⟨w.heap.size, 0, none⟩)), (7, .pointer (some ⟨w.heap.size + 1, 0, none⟩))] a) : firstWp Tryz.prog sd3_code (bodyPost Tryz.prog Tryz.f5 (fun e w' => e = .returned (.bool true) ∧ Below w.heap.size w w')) a W := by
 obtain ⟨v, hv⟩ : ∃ v, v = p.valid := ⟨_, rfl⟩
 have k1 := H9 fun W => znr codec p.src cl cm C.c0 C.c1 W
 have k2 := H9 fun W => zpu codec p.src cl cm C.c0 C.c1 W
 have hjq := zth codec p.src cl cm
 unfold NewP at k1 k2
 generalize Sb.new codec p.src cl cm = NW at *
 obtain ⟨q, er⟩ := NW
 dsimp only at k1 k2 hjq
 have HJ := H9 (fun W : World => show PW W q none 0 from ⟨[], hjq.symm, rfl, fun h => absurd h (by simp), fun _ h => by cases h⟩)
 have k3 := H9 fun W : World => zcz (w := W) (q := q) (A := none) (B := none) (n := 0) (m := 0) (c := 0) (d := 0) (HJ.out W) (HJ.out W) (by decide)
 have k4 := H9 fun (W : World) hW => zce p C.pc.wf A l n c (PA p A n c) rfl W C.pc.q C.pc.len C.pc.n5 hW C.pc.sq v hv
 have k5 := H9 fun (W : World) hW => zch p A l n c (PA p A n c) rfl W C.pc.q C.pc.len C.pc.n5 hW (fun a h => Nat.le_trans (C.pc.pay a h) (by decide)) v hv
 clear hjq hv
 obtain ⟨s, rfl, e1, e3, e4, e5, e7, _⟩ := ha
 rw [r142, e1, e3, e4, e5, e7]
 clear e1 e3 e4 e5 e7
 refine zec ?_
 intro _ _
 have x1 := PB.cell S.b0 1 _ rfl
 have y0 := S.bc.at 0 _ rfl
 have y1 := S.bc.at 1 _ rfl
 go_wp2_with fail
 refine (k1.out _).mono ?_
 rintro e w1 ⟨rfl, hb1⟩
 replace S := S.later hb1
 clear hb1 k1 x1 y0 y1
 have BZ : Blk (w1.alloc (Obj.cells (PA Sb.Pt.zero none 0 0) 48)) w1.heap.size 48 (PL Sb.Pt.zero none 0 0).toArray := Blk.new _ _ _
 go_upto_region 4 with (first | (refine zaf rfl 48 (.tmp 11) (.tmp 44) rfl (w1.heap.size) 0 rfl 48 (PL Sb.Pt.zero none 0 0) BZ (PL q none 0 0) rfl zah (show 0 + 48 ≤ 48 by decide) rfl (PL q none 0 0) rfl ?_; intro W3 Ba OB) | fail)
 have hbb := OB.below ((Below.refl _ w1).alloc (Nat.le_refl _) _) (by simp) (Nat.le_refl _)
 replace S := S.later hbb
 replace Ba := H9 (show PB W3 w1.heap.size q none 0 0 from Ba)
 obtain ⟨ga, hga⟩ : ∃ g, g = w1.heap.size := ⟨_, rfl⟩
 rw [← hga] at Ba ⊢
 clear hga OB BZ hbb
 have x1 := PB.cell S.b0 1 _ rfl
 have y0 := S.bc.at 0 _ rfl
 have y1 := S.bc.at 1 _ rfl
 go_wp2_with fail
 refine (k2.out _).mono ?_
 rintro e w2 ⟨rfl, hb1⟩
 replace S := S.later hb1
 replace Ba := H9 (Ba.out.later hb1)
 clear hb1 k2 x1 y0 y1
 have BZ : Blk (w2.alloc (Obj.cells (PA Sb.Pt.zero none 0 0) 48)) w2.heap.size 48 (PL Sb.Pt.zero none 0 0).toArray := Blk.new _ _ _
 go_upto_region 5 with (first | (refine zaf rfl 48 (.tmp 13) (.tmp 52) rfl (w2.heap.size) 0 rfl 48 (PL Sb.Pt.zero none 0 0) BZ (PL q none 0 0) rfl zah (show 0 + 48 ≤ 48 by decide) rfl (PL q none 0 0) rfl ?_; intro W4 Bb OB) | fail)
 have hbb := OB.below ((Below.refl _ w2).alloc (Nat.le_refl _) _) (by simp) (Nat.le_refl _)
 replace S := S.later hbb
 replace Ba := H9 (Ba.out.later hbb)
 replace Bb := H9 (show PB W4 w2.heap.size q none 0 0 from Bb)
 obtain ⟨gb, hgb⟩ : ∃ g, g = w2.heap.size := ⟨_, rfl⟩
 rw [← hgb] at Bb ⊢
 clear hgb OB BZ hbb
 refine wp_region_held_drew (S := fun w' => Below W4.heap.size W4 w') (by kernel_rfl) (Below.drew (Below.refl _ _)) (fun qH => ?_)
 obtain ⟨X9, hX9⟩ : ∃ X, X = W4.drew := ⟨_, rfl⟩
 rw [← hX9] at qH ⊢
 clear hX9
 refine tk1 (i := 0) (v := .agg (PA q none 0 0)) rfl (zcb (by rfl) 48 (.tmp 11) rfl (ga) 0 rfl 48 (PL q none 0 0) (fun w h => PB.later Ba.out h) 48 _ Tryz.underlying48 zah (Nat.le_refl 48) _ rfl rfl) qH ?_
 try simp only [ss9]
 refine tk1 (i := 1) (v := .agg (PA q none 0 0)) rfl (zcb (by rfl) 48 (.tmp 13) rfl (gb) 0 rfl 48 (PL q none 0 0) (fun w h => PB.later Bb.out h) 48 _ Tryz.underlying48 zah (Nat.le_refl 48) _ rfl rfl) qH ?_
 try simp only [ss9]
 refine wpAnyH_ready (rs := [2]) (by kernel_rfl) (by simp) ?_
 refine AllReadyH.cons (o := _) rfl (fun K hK => ?_) ?_
 rotate_left
 · exact AllReadyH.nil
 go_simp
 refine (k3.out _).mono ?_
 rintro e w7 ⟨rfl, qb⟩
 have hbw : Below W4.heap.size W4 w7 := zaj qb qH
 clear qb k3
 refine hK.out _ _ hbw (fun qH => ?_)
 clear hK K
 try simp only [ss9]
 refine tk1 (i := 3) (v := ?_) rfl (Or.inl ⟨by rfl, ?_⟩) qH ?_
 rotate_left
 · (intro w hSw; clear hSw; go_simp; try with_reducible rfl)
 try simp only [ss9]
 refine tk1 (i := 4) (v := ?_) rfl (Or.inl ⟨by rfl, ?_⟩) qH ?_
 rotate_left
 · (intro w hSw; clear hSw; go_simp; try with_reducible rfl)
 try simp only [ss9]
 refine tk1 (i := 5) (v := ?_) rfl (Or.inl ⟨by rfl, ?_⟩) qH ?_
 rotate_left
 · (intro w hSw; clear hSw; go_simp; try with_reducible rfl)
 try simp only [ss9]
 refine tk1 (i := 6) (v := ?_) rfl (Or.inl ⟨by rfl, ?_⟩) qH ?_
 rotate_left
 · (intro w hSw; clear hSw; go_simp; try with_reducible rfl)
 try simp only [ss9]
 refine tk1 (i := 7) (v := ?_) rfl (Or.inl ⟨by rfl, ?_⟩) qH ?_
 rotate_left
 · (intro w hSw; clear hSw; go_simp; try with_reducible rfl)
 try simp only [ss9]
 refine tk1 (i := 8) (v := ?_) rfl (Or.inl ⟨by rfl, ?_⟩) qH ?_
 rotate_left
 · (intro w hSw; clear hSw; go_simp; try with_reducible rfl)
 try simp only [ss9]
 refine tk1 (i := 9) (v := ?_) rfl (Or.inl ⟨by rfl, ?_⟩) qH ?_
 rotate_left
 · (intro w hSw; clear hSw; go_simp; try with_reducible rfl)
 try simp only [ss9]
 refine tk1 (i := 10) (v := .agg (PA p A n c)) rfl (zcb (by rfl) 48 (.tmp 5) rfl (w.heap.size) 0 rfl 48 (PL p A n c) (fun w h => PB.later S.b0 h) 48 _ Tryz.underlying48 zah (Nat.le_refl 48) _ rfl rfl) qH ?_
 try simp only [ss9]
 refine tk1 (i := 12) (v := .agg (PA p A n c)) rfl (zcb (by rfl) 48 (.tmp 5) rfl (w.heap.size) 0 rfl 48 (PL p A n c) (fun w h => PB.later S.b0 h) 48 _ Tryz.underlying48 zah (Nat.le_refl 48) _ rfl rfl) qH ?_
 try simp only [ss9]
 refine wpAnyH_ready (rs := [11]) (by kernel_rfl) (by simp) ?_
 refine AllReadyH.cons (o := _) rfl (fun K hK => ?_) ?_
 rotate_left
 · exact AllReadyH.nil
 go_simp
 refine (k4.out _ (C.pc.av.later (S.u.later qH))).mono ?_
 rintro e w8 ⟨rfl, qb⟩
 have hbw : Below W4.heap.size W4 w8 := zaj qb qH
 clear qb k4
 refine hK.out _ _ hbw (fun qH => ?_)
 clear hK K
 try simp only [ss9]
 refine wpAnyH_ready (rs := [13]) (by kernel_rfl) (by simp) ?_
 refine AllReadyH.cons (o := _) rfl (fun K hK => ?_) ?_
 rotate_left
 · exact AllReadyH.nil
 go_simp
 refine (k5.out _ (C.pc.av.later (S.u.later qH))).mono ?_
 rintro e w9 ⟨rfl, qb⟩
 have hbw : Below W4.heap.size W4 w9 := zaj qb qH
 clear qb k5
 refine hK.out _ _ hbw (fun qH => ?_)
 clear hK K
 try simp only [ss9]
 have hvv : (v != v) = false := by cases v <;> rfl
 refine tk1 (i := 14) (v := ?_) rfl (Or.inl ⟨by rfl, ?_⟩) qH ?_
 rotate_left
 · (intro w hSw; clear hSw; go_simp; try with_reducible rfl)
 try simp only [ss9]
 refine tk1 (i := 15) (v := ?_) rfl (Or.inl ⟨by rfl, ?_⟩) qH ?_
 rotate_left
 · (intro w hSw; clear hSw; go_simp; try with_reducible rfl)
 try simp only [ss9]
 refine wpAnyH_done (by kernel_rfl) ?_ _
 replace S := S.later qH
 go_upto_region 7 with fail
 refine zcv (by assumption) ?_
 exact h _ _ S (Fr.mk rfl ⟨rfl, rfl, rfl, rfl, rfl, trivial⟩)
end Go.Proofs.YtahbecinkciahaaGreat
namespace Go.Proofs.YtahbecinkciahaaGreat
open Go.RowKit
namespace Sb
theorem znv {s : Ev.Snd} (h : s.valid = true) : s.vol ≤ 63 ∧ (0 ≤ s.len ∧ s.len ≤ 65535) ∧ (0 ≤ s.ends ∧ s.ends ≤ 3) ∧ (s.on = true → s.ends = 0) := by
 unfold Ev.Snd.valid at h
 cases ho : s.on <;> simp [ho] at h ⊢ <;> omega
theorem next_some (s : Ev.Snd) (h : s.valid = true) (ht : s.on = true ∨ s.ends ≠ 0) (hv : 0 ≤ s.vol) : (Ev.next s 160).some = true ∧ (Ev.next s 160).err = 0 ∧ (0 ≤ (Ev.next s 160).o.tone.vol ∧ (Ev.next s 160).o.tone.vol ≤ 63) ∧ (0 ≤ (Ev.next s 160).o.tone.dur ∧ (Ev.next s 160).o.tone.dur ≤ 65535) := by
 obtain ⟨h1, h2, h3, h4⟩ := znv h
 unfold Ev.next
 rw [if_neg (by rw [h]; decide), if_neg (by omega)]
 split
 · exact ⟨rfl, rfl, ⟨hv, h1⟩, by show 0 ≤ min (s.len + 160) 65535; omega, by show min (s.len + 160) 65535 ≤ 65535; omega⟩
 · rename_i ho
   rw [if_neg (by rcases ht with h | h; exact absurd h ho; exact h)]
   exact ⟨rfl, rfl, ⟨hv, h1⟩, h2⟩
theorem next_wf (s : Ev.Snd) (n : Int) (hv : 0 ≤ s.vol ∧ s.vol ≤ 255) (hc : 0 ≤ s.code ∧ s.code ≤ 255) (hs : 0 ≤ s.start ∧ s.start ≤ 4294967295) : (0 ≤ (Ev.next s n).s.vol ∧ (Ev.next s n).s.vol ≤ 255) ∧ (0 ≤ (Ev.next s n).s.code ∧ (Ev.next s n).s.code ≤ 255) ∧ (0 ≤ (Ev.next s n).s.start ∧ (Ev.next s n).s.start ≤ 4294967295) := by
 have z : (0 ≤ Ev.Snd.zero.vol ∧ Ev.Snd.zero.vol ≤ 255) ∧ (0 ≤ Ev.Snd.zero.code ∧ Ev.Snd.zero.code ≤ 255) ∧ (0 ≤ Ev.Snd.zero.start ∧ Ev.Snd.zero.start ≤ 4294967295) := by decide
 unfold Ev.next
 split
 · exact z
 split
 · exact z
 split
 · exact ⟨hv, hc, hs⟩
 split
 · exact ⟨hv, hc, hs⟩
 · show (0 ≤ (if s.ends = 1 then Ev.Snd.zero else _ : Ev.Snd).vol ∧ _) ∧ _
   split
   · exact z
   · exact ⟨hv, hc, hs⟩
end Sb
end Go.Proofs.YtahbecinkciahaaGreat
namespace Go.Proofs.YtahbecinkciahaaGreat
attribute [local go_sem ↓] Go.wp_at_zero Go.wp_at_succ
attribute [local go_sem] zab zag
open Go.RowKit
theorem Ev.or_bytes (x0 x1 : Int) (a0 : 0 ≤ x0) (b0 : x0 ≤ 255) (a1 : 0 ≤ x1) (b1 : x1 ≤ 255) : bits BinOp.or IntKind.u16 (x0 * 256) x1 = 256 * x0 + x1 := by
 obtain ⟨n0, rfl⟩ := Int.eq_ofNat_of_zero_le a0
 obtain ⟨n1, rfl⟩ := Int.eq_ofNat_of_zero_le a1
 have e : ((n0 : Int) * 256) = ((n0 * 256 : Nat) : Int) := by omega
 have h : n0 * 256 ||| n1 = n0 * 256 + n1 := by
  rw [show (256 : Nat) = 2 ^ 8 from rfl, ← Nat.shiftLeft_eq, Nat.shiftLeft_add_eq_or_of_lt (by omega)]
 rw [e, u16_or_nat (n0 * 256) n1 (by omega) (by omega), h]
 omega
theorem Ev.u16_in (x : Int) (h0 : 0 ≤ x) (h1 : x ≤ 65535) : IntKind.u16.wrap x = x := by
 simp [IntKind.wrap, IntKind.bits, IntKind.signed]
 omega
def Ev.Tone.row (t : Ev.Tone) : Array Value := #[.int .u8 t.code, .bool t.fin, .int .u8 t.vol, .int .u16 t.dur]
section
variable (c : Int) (f : Bool) (v d : Int) (w : World)
theorem zfb (v0 : 0 ≤ v) (d0 : 0 ≤ d) (d1 : d ≤ 65535) :
 Calls Tryz.prog 77 #[.agg #[.int .u8 c, .bool f, .int .u8 v, .int .u16 d]] w (RetInts .u8 (Ev.encT c f v d).1 (Ev.encT c f v d).2 w) := by
 unfold Ev.encT
 by_cases h : 63 < v
 · rw [if_pos h]
   go_enter Tryz.func77, Tryz.ntmps77
   go_wp2
   go_ret2
   exact ⟨none, 0, rfl, IntsAt.nil, (Below.refl _ _).alloc (Nat.le_refl _) _⟩
 · rw [if_neg h]
   have h' : v ≤ 63 := by omega
   clear h
   cases f
   all_goals
    go_enter Tryz.func77, Tryz.ntmps77
    go_wp2
    go_ret2
    refine ⟨some ⟨w.heap.size + 1, 0, none⟩, 4, rfl, ?_, ((Below.refl _ _).alloc (Nat.le_refl _) _).alloc (by simp) _⟩
    refine IntsAt.lit1 w _ 5 .u8 _ _ ?_
    simp
    rw [Int.tdiv_eq_ediv_of_nonneg d0, Ev.u16_in _ (by omega) (by omega)]
    omega
end
section
variable (A : Option Addr) (bs : List Int) (cap : Nat) (w : World)
end
theorem zfn (c : Int) (f : Bool) (v d : Int) (w : World) (v0 : 0 ≤ v) (h' : v ≤ 63) (d0 : 0 ≤ d) (d1 : d ≤ 65535) : Calls Tryz.prog 74 #[.agg #[.int .u8 c, .bool f, .int .u8 v, .int .u16 d]] w fun e w' => ∃ A' : Option Addr, e = .returned (.tuple #[.slice A' 4 4, .int .u8 0]) ∧ IntsNew w.heap.size w' .u8 A' (Ev.encT c f v d).1 ∧ Below w.heap.size w w' := by
 unfold Ev.encT
 rw [if_neg (by omega)]
 cases f
 all_goals
  go_enter Tryz.func74, Tryz.ntmps74
  go_wp2
  go_ret2
  refine ⟨some ⟨w.heap.size + 1, 0, none⟩, rfl, ⟨?_, fun _ b o e => by injection e with e; injection e with e1 _; omega⟩, ((Below.refl _ _).alloc (Nat.le_refl _) _).alloc (by simp) _⟩
  refine IntsAt.lit1 w _ 5 .u8 _ _ ?_
  simp
  try omega
end Go.Proofs.YtahbecinkciahaaGreat
namespace Go.Proofs.YtahbecinkciahaaGreat
attribute [local go_sem ↓] zac zad
attribute [local go_sem] zab zag
open Go.RowKit
section
variable (on : Bool) (code vol start len ends n : Int) (w : World)
theorem zpw (hv : Ev.Snd.valid ⟨on, code, vol, start, len, ends⟩ = false) :
 Calls Tryz.prog 73 #[.agg #[.bool on, .int .u8 code, .int .u8 vol, .int .u32 start, .int .i64 len, .int .i64 ends], .int .i64 n] w fun e w' => e = .returned (.tuple #[.agg (Ev.next ⟨on, code, vol, start, len, ends⟩ n).s.row, .agg #[.int .u32 (Ev.next ⟨on, code, vol, start, len, ends⟩ n).o.time, .bool (Ev.next ⟨on, code, vol, start, len, ends⟩ n).o.marker, .int .u8 (Ev.next ⟨on, code, vol, start, len, ends⟩ n).o.tone.code, .bool (Ev.next ⟨on, code, vol, start, len, ends⟩ n).o.tone.fin, .int .u8 (Ev.next ⟨on, code, vol, start, len, ends⟩ n).o.tone.vol, .int .u16 (Ev.next ⟨on, code, vol, start, len, ends⟩ n).o.tone.dur], .bool (Ev.next ⟨on, code, vol, start, len, ends⟩ n).some, .int .u8 (Ev.next ⟨on, code, vol, start, len, ends⟩ n).err]) ∧ Below w.heap.size w w' := by
 have k1 := H9 fun W => zbd on code vol start len ends W
 rw [hv] at k1
 obtain ⟨R, hR⟩ : ∃ R, R = Ev.next ⟨on, code, vol, start, len, ends⟩ n := ⟨_, rfl⟩
 rw [← hR]
 unfold Ev.next at hR
 rw [hv] at hR
 skip
 have HR := H9 hR
 clear hv hR
 go_enter Tryz.func73, Tryz.ntmps73
 go_wp2_with (go_at_call 126; refine (k1.out _).mono ?_; rintro e w1 ⟨rfl, rfl⟩)
 all_goals
  refine bodyPost_ret (v := .tuple #[.agg R.s.row, .agg #[.int .u32 R.o.time, .bool R.o.marker, .int .u8 R.o.tone.code, .bool R.o.tone.fin, .int .u8 R.o.tone.vol, .int .u16 R.o.tone.dur], .bool R.some, .int .u8 R.err]) ?_ rfl ⟨rfl, ?_⟩
  · have hR := HR.out
    first
     | (simp_all [results, Tryz.results73, go_sem, Ev.Snd.zero, Ev.Snd.row, Ev.Out.zero, Ev.Tone.zero]; done)
     | (simp_all [results, Tryz.results73, go_sem, Ev.Snd.zero, Ev.Snd.row, Ev.Out.zero, Ev.Tone.zero]; (repeat' split) <;> first | omega | (simp_all; done) | (simp_all; omega))
  · repeat (first | exact Below.refl _ _ | refine Below.drew ?_ | refine Below.setCell ?_ (by simp) _ | refine Below.alloc ?_ (by simp; try omega) _)
theorem zlv (hv : Ev.Snd.valid ⟨on, code, vol, start, len, ends⟩ = true) (hn : n < 1 ∨ 8000 < n) :
 Calls Tryz.prog 73 #[.agg #[.bool on, .int .u8 code, .int .u8 vol, .int .u32 start, .int .i64 len, .int .i64 ends], .int .i64 n] w fun e w' => e = .returned (.tuple #[.agg (Ev.next ⟨on, code, vol, start, len, ends⟩ n).s.row, .agg #[.int .u32 (Ev.next ⟨on, code, vol, start, len, ends⟩ n).o.time, .bool (Ev.next ⟨on, code, vol, start, len, ends⟩ n).o.marker, .int .u8 (Ev.next ⟨on, code, vol, start, len, ends⟩ n).o.tone.code, .bool (Ev.next ⟨on, code, vol, start, len, ends⟩ n).o.tone.fin, .int .u8 (Ev.next ⟨on, code, vol, start, len, ends⟩ n).o.tone.vol, .int .u16 (Ev.next ⟨on, code, vol, start, len, ends⟩ n).o.tone.dur], .bool (Ev.next ⟨on, code, vol, start, len, ends⟩ n).some, .int .u8 (Ev.next ⟨on, code, vol, start, len, ends⟩ n).err]) ∧ Below w.heap.size w w' := by
 have k1 := H9 fun W => zbd on code vol start len ends W
 rw [hv] at k1
 obtain ⟨R, hR⟩ : ∃ R, R = Ev.next ⟨on, code, vol, start, len, ends⟩ n := ⟨_, rfl⟩
 rw [← hR]
 unfold Ev.next at hR
 rw [hv] at hR
 skip
 have HR := H9 hR
 clear hv hR
 rcases hn with hn | hn
 all_goals
  go_enter Tryz.func73, Tryz.ntmps73
  go_wp2_with (go_at_call 126; refine (k1.out _).mono ?_; rintro e w1 ⟨rfl, rfl⟩)
  all_goals
   refine bodyPost_ret (v := .tuple #[.agg R.s.row, .agg #[.int .u32 R.o.time, .bool R.o.marker, .int .u8 R.o.tone.code, .bool R.o.tone.fin, .int .u8 R.o.tone.vol, .int .u16 R.o.tone.dur], .bool R.some, .int .u8 R.err]) ?_ rfl ⟨rfl, ?_⟩
   · have hR := HR.out
     first
      | (simp_all [results, Tryz.results73, go_sem, Ev.Snd.zero, Ev.Snd.row, Ev.Out.zero, Ev.Tone.zero]; done)
      | (simp_all [results, Tryz.results73, go_sem, Ev.Snd.zero, Ev.Snd.row, Ev.Out.zero, Ev.Tone.zero]; (repeat' split) <;> first | omega | (simp_all; done) | (simp_all; omega))
   · repeat (first | exact Below.refl _ _ | refine Below.drew ?_ | refine Below.setCell ?_ (by simp) _ | refine Below.alloc ?_ (by simp; try omega) _)
theorem zsa (hv : Ev.Snd.valid ⟨true, code, vol, start, len, ends⟩ = true) (hn0 : 1 ≤ n) (hn1 : n ≤ 8000) :
 Calls Tryz.prog 73 #[.agg #[.bool true, .int .u8 code, .int .u8 vol, .int .u32 start, .int .i64 len, .int .i64 ends], .int .i64 n] w fun e w' => e = .returned (.tuple #[.agg (Ev.next ⟨true, code, vol, start, len, ends⟩ n).s.row, .agg #[.int .u32 (Ev.next ⟨true, code, vol, start, len, ends⟩ n).o.time, .bool (Ev.next ⟨true, code, vol, start, len, ends⟩ n).o.marker, .int .u8 (Ev.next ⟨true, code, vol, start, len, ends⟩ n).o.tone.code, .bool (Ev.next ⟨true, code, vol, start, len, ends⟩ n).o.tone.fin, .int .u8 (Ev.next ⟨true, code, vol, start, len, ends⟩ n).o.tone.vol, .int .u16 (Ev.next ⟨true, code, vol, start, len, ends⟩ n).o.tone.dur], .bool (Ev.next ⟨true, code, vol, start, len, ends⟩ n).some, .int .u8 (Ev.next ⟨true, code, vol, start, len, ends⟩ n).err]) ∧ Below w.heap.size w w' := by
 have k1 := H9 fun W => zbd true code vol start len ends W
 rw [hv] at k1
 obtain ⟨R, hR⟩ : ∃ R, R = Ev.next ⟨true, code, vol, start, len, ends⟩ n := ⟨_, rfl⟩
 rw [← hR]
 unfold Ev.next at hR
 rw [hv] at hR
 obtain ⟨b1, b2, b3, b4, b5, b6⟩ := zcs hv
 obtain rfl := b6 rfl
 have HR := H9 hR
 clear hv hR
 go_enter Tryz.func73, Tryz.ntmps73
 go_wp2_with (go_at_call 126; refine (k1.out _).mono ?_; rintro e w1 ⟨rfl, rfl⟩)
 all_goals (try (go_region; go_wp2))
 all_goals
  refine bodyPost_ret (v := .tuple #[.agg R.s.row, .agg #[.int .u32 R.o.time, .bool R.o.marker, .int .u8 R.o.tone.code, .bool R.o.tone.fin, .int .u8 R.o.tone.vol, .int .u16 R.o.tone.dur], .bool R.some, .int .u8 R.err]) ?_ rfl ⟨rfl, ?_⟩
  · have hR := HR.out
    first
     | (simp_all [results, Tryz.results73, go_sem, Ev.Snd.zero, Ev.Snd.row, Ev.Out.zero, Ev.Tone.zero]; done)
     | (simp_all [results, Tryz.results73, go_sem, Ev.Snd.zero, Ev.Snd.row, Ev.Out.zero, Ev.Tone.zero]; (repeat' split) <;> first | omega | (simp_all; done) | (simp_all; omega))
  · repeat (first | exact Below.refl _ _ | refine Below.drew ?_ | refine Below.setCell ?_ (by simp) _ | refine Below.alloc ?_ (by simp; try omega) _)
theorem zpx (hv : Ev.Snd.valid ⟨false, code, vol, start, len, ends⟩ = true) (hn0 : 1 ≤ n) (hn1 : n ≤ 8000) :
 Calls Tryz.prog 73 #[.agg #[.bool false, .int .u8 code, .int .u8 vol, .int .u32 start, .int .i64 len, .int .i64 ends], .int .i64 n] w fun e w' => e = .returned (.tuple #[.agg (Ev.next ⟨false, code, vol, start, len, ends⟩ n).s.row, .agg #[.int .u32 (Ev.next ⟨false, code, vol, start, len, ends⟩ n).o.time, .bool (Ev.next ⟨false, code, vol, start, len, ends⟩ n).o.marker, .int .u8 (Ev.next ⟨false, code, vol, start, len, ends⟩ n).o.tone.code, .bool (Ev.next ⟨false, code, vol, start, len, ends⟩ n).o.tone.fin, .int .u8 (Ev.next ⟨false, code, vol, start, len, ends⟩ n).o.tone.vol, .int .u16 (Ev.next ⟨false, code, vol, start, len, ends⟩ n).o.tone.dur], .bool (Ev.next ⟨false, code, vol, start, len, ends⟩ n).some, .int .u8 (Ev.next ⟨false, code, vol, start, len, ends⟩ n).err]) ∧ Below w.heap.size w w' := by
 have k1 := H9 fun W => zbd false code vol start len ends W
 rw [hv] at k1
 obtain ⟨R, hR⟩ : ∃ R, R = Ev.next ⟨false, code, vol, start, len, ends⟩ n := ⟨_, rfl⟩
 rw [← hR]
 unfold Ev.next at hR
 rw [hv] at hR
 obtain ⟨b1, b2, b3, b4, b5, b6⟩ := zcs hv
 have HR := H9 hR
 clear hv hR
 go_enter Tryz.func73, Tryz.ntmps73
 go_wp2_with (go_at_call 126; refine (k1.out _).mono ?_; rintro e w1 ⟨rfl, rfl⟩)
 all_goals (try (go_region; go_wp2))
 all_goals
  refine bodyPost_ret (v := .tuple #[.agg R.s.row, .agg #[.int .u32 R.o.time, .bool R.o.marker, .int .u8 R.o.tone.code, .bool R.o.tone.fin, .int .u8 R.o.tone.vol, .int .u16 R.o.tone.dur], .bool R.some, .int .u8 R.err]) ?_ rfl ⟨rfl, ?_⟩
  · have hR := HR.out
    first
     | (simp_all [results, Tryz.results73, go_sem, Ev.Snd.zero, Ev.Snd.row, Ev.Out.zero, Ev.Tone.zero]; done)
     | (simp_all [results, Tryz.results73, go_sem, Ev.Snd.zero, Ev.Snd.row, Ev.Out.zero, Ev.Tone.zero]; (repeat' split) <;> first | omega | (simp_all; done) | (simp_all; omega))
  · repeat (first | exact Below.refl _ _ | refine Below.drew ?_ | refine Below.setCell ?_ (by simp) _ | refine Below.alloc ?_ (by simp; try omega) _)
theorem zpy :
 Calls Tryz.prog 73 #[.agg #[.bool on, .int .u8 code, .int .u8 vol, .int .u32 start, .int .i64 len, .int .i64 ends], .int .i64 n] w fun e w' => e = .returned (.tuple #[.agg (Ev.next ⟨on, code, vol, start, len, ends⟩ n).s.row, .agg #[.int .u32 (Ev.next ⟨on, code, vol, start, len, ends⟩ n).o.time, .bool (Ev.next ⟨on, code, vol, start, len, ends⟩ n).o.marker, .int .u8 (Ev.next ⟨on, code, vol, start, len, ends⟩ n).o.tone.code, .bool (Ev.next ⟨on, code, vol, start, len, ends⟩ n).o.tone.fin, .int .u8 (Ev.next ⟨on, code, vol, start, len, ends⟩ n).o.tone.vol, .int .u16 (Ev.next ⟨on, code, vol, start, len, ends⟩ n).o.tone.dur], .bool (Ev.next ⟨on, code, vol, start, len, ends⟩ n).some, .int .u8 (Ev.next ⟨on, code, vol, start, len, ends⟩ n).err]) ∧ Below w.heap.size w w' := by
 cases hv : Ev.Snd.valid ⟨on, code, vol, start, len, ends⟩
 · exact zpw on code vol start len ends n w hv
 · by_cases hn : n < 1 ∨ 8000 < n
   · exact zlv on code vol start len ends n w hv hn
   · cases on
     · exact zpx code vol start len ends n w hv (by omega) (by omega)
     · exact zsa code vol start len ends n w hv (by omega) (by omega)
end
end Go.Proofs.YtahbecinkciahaaGreat
