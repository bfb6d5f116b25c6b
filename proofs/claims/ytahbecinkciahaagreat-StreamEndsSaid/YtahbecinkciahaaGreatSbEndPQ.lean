/- Layer 32, StreamEnds in plain words: a speaker with keys, and a listener whom every packet reaches after the same time; no program in sight. -/
import Derived.Test.YtahbecinkciahaaGreatEvToneQ
import Derived.Test.YtahbecinkciahaaGreatSbLivRQ
import Derived.Test.YtahbecinkciahaaGreatDelRefPackQ
import Derived.Test.YtahbecinkciahaaGreatSs9Q
import Derived.Test.YtahbecinkciahaaGreatJtCopyQ
import Derived.BigRegion
import Derived.Test.YtahbecinkciahaaGreatJtPutG1Q
import Derived.Deep.QuietTactic
import Derived.BigQuiet
import Derived.RegionTactic
import Derived.Test.YtahbecinkciahaaGreatSbDecsQ
import Derived.Test.YtahbecinkciahaaGreatSbLives
set_option linter.unusedVariables false
set_option linter.unusedSimpArgs false
set_option maxRecDepth 100000
set_option maxHeartbeats 12800000
namespace Go.Proofs.YtahbecinkciahaaGreat.Sb
open Go.RowKit
theorem zmu (s : Ev.Snd) (h : s.valid = true) : (Ev.next s 160).s.valid = true := by
 obtain ⟨h1, h2, h3, h4⟩ := zdo h
 cases ho : s.on
 · by_cases he : s.ends = 0
   · unfold Ev.next
     rw [if_neg (by rw [h]; decide), if_neg (by omega), if_neg (by rw [ho]; decide), if_pos he]
     exact h
   · rw [next_off h ho he]
     by_cases h9 : s.ends = 1
     · simp only [if_pos h9]; exact tn0
     · simp only [if_neg h9]
       unfold Ev.Snd.valid
       simp only [Bool.and_eq_true, decide_eq_true_eq, Bool.or_eq_true, Bool.not_eq_true', beq_iff_eq]
       simp
       omega
 · rw [next_on h ho]
   have := h4 ho
   unfold Ev.Snd.valid
   simp only [Bool.and_eq_true, decide_eq_true_eq, Bool.or_eq_true, Bool.not_eq_true', beq_iff_eq]
   simp
   omega
structure SpkE (c : Int) (p : Pt) (i sq : Nat) : Prop where
 sp : speechB c = true
 codec : p.codec = c
 src : p.src = 7
 seq : p.seq = (sq : Int)
 time : p.time = 160 * (i : Int)
 below : 0 ≤ p.below ∧ p.below ≤ 10
 cod : Dlt.valid p.cv p.ci = true
 tv : p.tn.valid = true
 t1 : 0 ≤ p.tn.vol ∧ p.tn.vol ≤ 255
 t2 : 0 ≤ p.tn.code ∧ p.tn.code ≤ 255
 t3 : 0 ≤ p.tn.start ∧ p.tn.start ≤ 4294967295
 jv : Jb.valid p.jt = true
 jq : p.jt.q = []
 tk : p.tk = Pk.Tr.zero
 ht : p.ht = 0
 pk : 0 ≤ p.pk ∧ p.pk ≤ 4294967295
 oc : 0 ≤ p.oc ∧ p.oc ≤ 4294967295
 seed : 0 ≤ p.seed ∧ p.seed ≤ 4294967295
 le : sq ≤ i
 i40 : i ≤ 40
section
variable {c : Int} {p : Pt} {i sq : Nat}
theorem SpkE.valid (h : SpkE c p i sq) : p.valid = true := by
 have hn : p.near := by unfold Pt.near; rw [h.tk, h.ht]; decide
 unfold Pt.valid
 rw [h.codec, h.sp, h.cod, h.jv, h.tv, decide_eq_true hn]; rfl
theorem SpkE.wf (h : SpkE c p i sq) : p.wf := by
 have h1 := h.le
 have h2 := h.i40
 have h3 := h.below
 constructor
 · rw [h.codec]; exact sp_bd h.sp
 · rw [h.src]; decide
 · rw [h.seq]; omega
 · rw [h.time]; omega
 · omega
 · exact h.t1
 · exact h.t2
 · exact h.t3
 · exact h.seed
 · exact h.pk
 · exact h.oc
theorem SpkE.start {l m : Int} (hs : speechB c = true) (hc : Jb.cfg l m) : SpkE c (new c 7 l m).1 0 0 := by
 obtain ⟨h, _⟩ := SpkI.start hs hc
 exact ⟨h.sp, h.codec, h.src, h.seq, h.time, h.below, h.cod, by rw [h.tn]; exact tn0, by rw [h.tn]; decide, by rw [h.tn]; decide, by rw [h.tn]; decide, h.jv, h.jq, h.tk, h.ht, h.pk, h.oc, h.seed, Nat.le_refl _, by omega⟩
theorem SpkE.tone (h : SpkE c p i sq) (T : Ev.Snd) (hv : T.valid = true) (h1 : 0 ≤ T.vol ∧ T.vol ≤ 255) (h2 : 0 ≤ T.code ∧ T.code ≤ 255) (h3 : 0 ≤ T.start ∧ T.start ≤ 4294967295) : SpkE c { p with tn := T } i sq :=
 ⟨h.sp, h.codec, h.src, h.seq, h.time, h.below, h.cod, hv, h1, h2, h3, h.jv, h.jq, h.tk, h.ht, h.pk, h.oc, h.seed, h.le, h.i40⟩
theorem SpkE.press (h : SpkE c p i sq) (code : Int) (c0 : 0 ≤ code) (c1 : code ≤ 15) : Sb.press p code = (if (Ev.press p.tn code 10 p.time).2 = 0 then { p with tn := (Ev.press p.tn code 10 p.time).1 } else Pt.zero, (Ev.press p.tn code 10 p.time).2) ∧
 ((Ev.press p.tn code 10 p.time).2 = 0 → SpkE c { p with tn := (Ev.press p.tn code 10 p.time).1 } i sq) := by
 constructor
 · unfold Sb.press
   rw [if_neg (by rw [h.valid]; decide), if_neg (by omega)]
   split
   · rename_i h0; rw [h0]
   · rfl
 · intro h0
   have h2 := h.i40
   have ht := h.time
   unfold Ev.press at h0 ⊢
   rw [if_neg (by rw [h.tv]; decide)] at h0 ⊢
   by_cases hb : p.tn.on = true ∨ p.tn.ends ≠ 0
   · rw [if_pos hb] at h0; cases h0
   · rw [if_neg hb, if_neg (by omega)]
     exact h.tone _ (by unfold Ev.Snd.valid; simp) (by simp) (by simp; omega) (by simp; omega)
theorem SpkE.release (h : SpkE c p i sq) : Sb.release p = (if (Ev.release p.tn).2 = 0 then { p with tn := (Ev.release p.tn).1 } else Pt.zero, (Ev.release p.tn).2) ∧
 ((Ev.release p.tn).2 = 0 → SpkE c { p with tn := (Ev.release p.tn).1 } i sq) := by
 constructor
 · unfold Sb.release
   rw [if_neg (by rw [h.valid]; decide)]
   split
   · rename_i h0; rw [h0]
   · rfl
 · intro h0
   obtain ⟨v1, v2, v3, v4⟩ := zdo h.tv
   unfold Ev.release at h0 ⊢
   rw [if_neg (by rw [h.tv]; decide)] at h0 ⊢
   by_cases hb : p.tn.on = false
   · rw [if_pos hb] at h0; cases h0
   · rw [if_neg hb]
     exact h.tone _ (by unfold Ev.Snd.valid; simp; omega) h.t1 h.t2 h.t3
inductive SentK (c : Int) (p : Pt) (zs : List Int) (i sq : Nat) (q : Pt) : List Pkt → Prop where
 | tone (k : Pkt) (h0 : p.tn.on = true ∨ p.tn.ends ≠ 0) (h1 : q.tn = (Ev.next p.tn 160).s) (h2 : q.cv = p.cv ∧ q.ci = p.ci) (h3 : k.sq = (sq : Int)) (h4 : k.ty = 101) (h5 : k.ti = (Ev.next p.tn 160).o.time)
  (h6 : k.pl = (Ev.encT (Ev.next p.tn 160).o.tone.code (Ev.next p.tn 160).o.tone.fin (Ev.next p.tn 160).o.tone.vol (Ev.next p.tn 160).o.tone.dur).1) : SentK c p zs i sq q [k]
 | noise (k : Pkt) (h0 : ¬(p.tn.on = true ∨ p.tn.ends ≠ 0)) (h1 : q.tn = p.tn) (h2 : q.cv = p.cv ∧ q.ci = p.ci) (h3 : k.sq = (sq : Int)) (h4 : k.ty = 13) (h5 : k.ti = 160 * (i : Int)) (h6 : ∃ z, k.pl = [z] ∧ 0 ≤ z ∧ z ≤ 255) : SentK c p zs i sq q [k]
 | none (h0 : ¬(p.tn.on = true ∨ p.tn.ends ≠ 0)) (h1 : q.tn = p.tn) (h2 : q.cv = p.cv ∧ q.ci = p.ci) : SentK c p zs i sq q []
 | speech (k : Pkt) (h0 : ¬(p.tn.on = true ∨ p.tn.ends ≠ 0)) (h1 : q.tn = p.tn) (h2 : q.cv = (enc c (p.cv, p.ci) zs).2.1 ∧ q.ci = (enc c (p.cv, p.ci) zs).2.2) (h3 : k.sq = (sq : Int)) (h4 : k.ty = c) (h5 : k.ti = 160 * (i : Int)) (h6 : k.pl = (enc c (p.cv, p.ci) zs).1) : SentK c p zs i sq q [k]
theorem SpkE.step (h : SpkE c p i sq) (zs : List Int) (hi : i < 40) (hl : zs.length = 160) (hz : ∀ z ∈ zs, -32768 ≤ z ∧ z ≤ 32767) :
 (send0 p zs).2.length ≤ 1 ∧ SpkE c (send0 p zs).1 (i + 1) (sq + (send0 p zs).2.length) ∧ SentK c p zs i sq (send0 p zs).1 (send0 p zs).2 := by
 have h1 := h.le
 have hb0 := h.below
 have hq : 0 ≤ Ev.quiet p.below zs ∧ Ev.quiet p.below zs ≤ 10 := by unfold Ev.quiet; split <;> omega
 have a1 : (p.seq + 1) % 65536 = ((sq + 1 : Nat) : Int) := by rw [h.seq]; push_cast; omega
 have a2 : (p.time + 160) % 4294967296 = 160 * ((i + 1 : Nat) : Int) := by rw [h.time]; push_cast; omega
 have a3 : 0 ≤ (p.pk + 1) % 4294967296 ∧ (p.pk + 1) % 4294967296 ≤ 4294967295 := by omega
 by_cases ht : p.tn.on = true ∨ p.tn.ends ≠ 0
 · obtain ⟨n1, n2, n3⟩ := next_wf p.tn 160 h.t1 h.t2 h.t3
   have nv := zmu p.tn h.tv
   unfold send0
   rw [if_pos ht]
   refine ⟨Nat.le_refl _, ⟨h.sp, h.codec, h.src, a1, a2, ⟨(by decide : (0 : Int) ≤ 0), (by decide : (0 : Int) ≤ 10)⟩, h.cod, nv, n1, n2, n3, h.jv, h.jq, h.tk, h.ht, a3, ?_, h.seed, by show sq + 1 ≤ i + 1; omega, by omega⟩, .tone _ ht rfl ⟨rfl, rfl⟩ h.seq rfl rfl rfl⟩
   show 0 ≤ (p.oc + _) % 4294967296 ∧ (p.oc + _) % 4294967296 ≤ 4294967295; omega
 by_cases h10 : Ev.quiet p.below zs = 10
 · unfold send0
   rw [if_neg ht, if_pos h10]
   by_cases hb : p.below < 10
   · rw [if_pos hb]
     refine ⟨Nat.le_refl _, ⟨h.sp, h.codec, h.src, a1, a2, hq, h.cod, h.tv, h.t1, h.t2, h.t3, h.jv, h.jq, h.tk, h.ht, a3, ?_, h.seed, by show sq + 1 ≤ i + 1; omega, by omega⟩, .noise _ ht rfl ⟨rfl, rfl⟩ h.seq rfl h.time ⟨_, rfl, ?_⟩⟩
     · show 0 ≤ (p.oc + _) % 4294967296 ∧ (p.oc + _) % 4294967296 ≤ 4294967295; omega
     · have := Ev.lev_bd zs hz
       omega
   · rw [if_neg hb]
     exact ⟨by simp, ⟨h.sp, h.codec, h.src, h.seq, a2, hq, h.cod, h.tv, h.t1, h.t2, h.t3, h.jv, h.jq, h.tk, h.ht, h.pk, h.oc, h.seed, by show sq + 0 ≤ i + 1; omega, by omega⟩, .none ht rfl ⟨rfl, rfl⟩⟩
 · obtain ⟨e1, e2, e3⟩ := enc_in p.codec (p.cv, p.ci) zs h.cod hl
   unfold send0
   rw [if_neg ht, if_neg h10]
   refine ⟨Nat.le_refl _, ⟨h.sp, h.codec, h.src, a1, a2, hq, e3, h.tv, h.t1, h.t2, h.t3, h.jv, h.jq, h.tk, h.ht, a3, ?_, h.seed, by show sq + 1 ≤ i + 1; omega, by omega⟩, .speech _ ht rfl ?_ h.seq h.codec h.time ?_⟩
   · show 0 ≤ (p.oc + _) % 4294967296 ∧ (p.oc + _) % 4294967296 ≤ 4294967295; omega
   · rw [← h.codec]; exact ⟨rfl, rfl⟩
   · rw [← h.codec]; rfl
end
inductive F2 {α β : Type} (R : α → β → Prop) : List α → List β → Prop where
 | nil : F2 R [] []
 | cons {a : α} {b : β} {l : List α} {m : List β} (h : R a b) (t : F2 R l m) : F2 R (a :: l) (b :: m)
theorem F2.len {α β : Type} {R : α → β → Prop} {l : List α} {m : List β} (h : F2 R l m) : l.length = m.length := by
 induction h with
 | nil => rfl
 | cons _ _ ih => simp [ih]
theorem F2.append {α β : Type} {R : α → β → Prop} {l l' : List α} {m m' : List β} (h : F2 R l m) (h' : F2 R l' m') : F2 R (l ++ l') (m ++ m') := by
 induction h with
 | nil => exact h'
 | cons a _ ih => exact .cons a ih
theorem F2.split {α β : Type} {R : α → β → Prop} : ∀ {l l' : List α} {m : List β}, F2 R (l ++ l') m → ∃ m1 m2, m = m1 ++ m2 ∧ F2 R l m1 ∧ F2 R l' m2
 | [], l', m, h => ⟨[], m, rfl, .nil, h⟩
 | a :: l, l', m, h => by
   cases h with
   | cons hr ht =>
     obtain ⟨m1, m2, rfl, h1, h2⟩ := F2.split ht
     exact ⟨_ :: m1, m2, rfl, .cons hr h1, h2⟩
theorem F2.at_ {α β : Type} {R : α → β → Prop} {l : List α} {m : List β} (h : F2 R l m) : ∀ {k : Nat} {a : α}, l[k]? = some a → ∃ b, m[k]? = some b ∧ R a b := by
 induction h with
 | nil => intro k a h; simp at h
 | cons hr ht ih =>
   intro k a h
   cases k with
   | zero => exact ⟨_, rfl, by simp at h; rw [← h]; exact hr⟩
   | succ k => simpa using ih (by simpa using h)
def mQ (a : Jb.Wt) (w : Sd) : Prop := a.at_ = w.at_ ∧ ((speechB a.m.ty = true ∧ w.zs = decS a.m.ty a.m.pl ∧ w.zs.length = 160) ∨ (a.m.ty = 13 ∧ a.m.pl.length = 1 ∧ w.zs = []))
def mG (d : Sd) (w : Sd) : Prop := d.at_ = w.at_ ∧ d.zs.length = 160 ∧ (w.zs = [] ∨ d.zs = w.zs)
theorem zis : ∀ (l : List Jb.Wt) (s : Int) (m : List Sd), F2 mQ l m → F2 mG (sounds s l).2 m
 | [], s, m, h => by cases h; exact .nil
 | a :: l, s, m, h => by
   cases h with
   | cons hr ht =>
     refine .cons ⟨hr.1, ?_⟩ (zis l _ _ ht)
     show (dec a.m.ty a.m.pl s).1.length = 160 ∧ (_ ∨ (dec a.m.ty a.m.pl s).1 = _)
     rcases hr.2 with ⟨h1, h2, h3⟩ | ⟨h1, h2, h3⟩
     · have h13 : ¬a.m.ty = 13 := by rcases zao.1 h1 with e | e | e <;> omega
       unfold dec
       rw [if_neg h13]
       exact ⟨by rw [← h2]; exact h3, .inr h2.symm⟩
     · unfold dec
       rw [if_pos h1, if_pos h2]
       refine ⟨?_, .inl h3⟩
       unfold Ev.noise
       rw [if_neg (by omega)]
       simp
def nok (d : Sd) : Bool := d.ks.length == 0
theorem zmv (s : Int) (l : List Jb.Wt) : (sounds s l).2.filter nok = (sounds s l).2 := by
 apply List.filter_eq_self.2
 intro d hd
 have h := List.mem_map_of_mem (f := fun d : Sd => (d.at_, d.ks.length)) hd
 rw [zcx] at h
 obtain ⟨a, _, e⟩ := List.mem_map.1 h
 injection e with _ e
 unfold nok
 rw [← e]; rfl
def keysL (l : List Sd) : List Ev.Key := l.flatMap fun d => d.ks
theorem zcb (s : Int) (l : List Jb.Wt) : keysL (sounds s l).2 = [] := by
 unfold keysL
 rw [List.flatMap_eq_nil_iff]
 intro d hd
 have h := List.mem_map_of_mem (f := fun d : Sd => (d.at_, d.ks.length)) hd
 rw [zcx] at h
 obtain ⟨a, _, e⟩ := List.mem_map.1 h
 injection e with _ e
 exact List.eq_nil_of_length_eq_zero e.symm
structure LisE (ls mo trip : Int) (u : Pt) (i sq : Nat) (hi : Int) : Prop where
 wf : u.wf
 sp : speechB u.codec = true
 cod : Dlt.valid u.cv u.ci = true
 tn : u.tn = Ev.Snd.zero
 tk : (sq = 0 ∧ u.tk = Pk.Tr.zero) ∨ (0 < sq ∧ u.tk = ⟨true, (sq : Int) - 1, -1⟩)
 ht : 0 ≤ u.ht ∧ u.ht ≤ 9600
 jt : Jb.EndJ ls mo trip u.jt i hi
 hi : hi ≤ (sq : Int)
 now : u.jt.now ≤ 20 * (i : Int) + trip
 hl : 0 ≤ u.hd.len ∧ u.hd.len ≤ 65535
section
variable {ls mo trip : Int} {u : Pt} {i sq : Nat} {hi : Int}
theorem LisE.valid (h : LisE ls mo trip u i sq hi) (h6 : sq ≤ 60) : u.valid = true := by
 have h1 := h.ht
 have hn : u.near := by
  unfold Pt.near
  rcases h.tk with ⟨_, e⟩ | ⟨x, e⟩
  · rw [e]; show 0 ≤ (0 : Int) ∧ (0 : Int) ≤ 140737488355328 ∧ -1 ≤ (0 : Int) ∧ (0 : Int) ≤ 65535 ∧ _; omega
  · rw [e]; show 0 ≤ (sq : Int) - 1 ∧ (sq : Int) - 1 ≤ 140737488355328 ∧ -1 ≤ (-1 : Int) ∧ (-1 : Int) ≤ 65535 ∧ _; omega
 have hj : Jb.valid u.jt = true := by unfold Jb.valid; rw [decide_eq_true_iff]; exact h.jt.sm.ok
 unfold Pt.valid
 rw [h.sp, h.cod, hj, h.tn, tn0, decide_eq_true hn]; rfl
theorem LisE.chk (h : LisE ls mo trip u i sq hi) (h6 : sq ≤ 60) (t : Int) (h1 : 20 * (i : Int) + trip ≤ t) (h2 : t ≤ 281474976710656) : chkT u t = 0 := by
 have := h.now
 unfold chkT
 rw [if_neg (by rw [h.valid h6]; rintro (e | e); cases e; omega), if_neg (by omega)]
theorem LisE.skip (h : LisE ls mo trip u i sq hi) : LisE ls mo trip u (i + 1) sq hi :=
 ⟨h.wf, h.sp, h.cod, h.tn, h.tk, h.ht, h.jt.skip (Int.le_refl _), h.hi, by have := h.now; push_cast; omega, h.hl⟩
theorem LisE.follow (h : LisE ls mo trip u i sq hi) (h6 : sq < 60) : Pk.follow u.tk (sq : Int) = (⟨true, (sq : Int), -1⟩, (sq : Int), true) := by
 rcases h.tk with ⟨e0, e⟩ | ⟨e0, e⟩
 · rw [e]; unfold Pk.follow
   rw [if_neg (fun hn => hn (by decide)), if_pos (show Pk.Tr.zero.on = false from rfl)]
 · rw [e]; unfold Pk.follow
   have hok : Pk.Tr.ok ⟨true, (sq : Int) - 1, -1⟩ := by unfold Pk.Tr.ok; simp only; omega
   rw [if_neg (fun hn => hn hok), if_neg (by simp)]
   simp only [zrq ((sq : Int) - 1) (sq : Int) (by omega) (by omega) (by omega) (by omega)]
   rw [if_pos (by omega), show max ((sq : Int) - 1) (sq : Int) = (sq : Int) by omega]
theorem LisE.start {c l m : Int} (hs : speechB c = true) (hc : Jb.cfg l m) (t0 : 0 ≤ trip) : LisE l m trip (new c 7 l m).1 0 0 0 := by
 have h := LisI.start hs hc
 have e : new c 7 l m = ({ Pt.zero with codec := c, src := 7, mrk := true, jt := (Jb.new l m).1, seed := 7 }, 0) := by
  unfold new
  rw [if_neg (by rw [hs]; decide), if_pos hc]
 have h0 : (new c 7 l m).1.hd.len = 0 := by rw [e]; rfl
 have h1 : (new c 7 l m).1.tk = Pk.Tr.zero := by rw [e]; rfl
 have h2 : (new c 7 l m).1.jt = (Jb.new l m).1 := by rw [e]
 have h3 : (Jb.new l m).1.now = 0 := by unfold Jb.new; rw [if_pos hc]
 exact ⟨h.wf, h.sp, h.cod, h.tn, .inl ⟨rfl, h1⟩, h.ht, by rw [h2]; exact Jb.EndJ.start hc, by simp, by rw [h2, h3]; simp; omega, by rw [h0]; decide⟩
theorem LisE.media (h : LisE ls mo trip u i sq hi) (hi40 : i < 40) (hs : sq ≤ i) (hc : Jb.cfg ls mo) (t0 : 0 ≤ trip) (t1 : trip ≤ 65535) (x : Arr) (e1 : x.sq = (sq : Int)) (e2 : x.ti = 160 * (i : Int)) (hty : speechB x.ty = true ∨ x.ty = 13) (hpl : x.pl.length ≤ 1500) :
 ∃ (u' : Pt) (sds : List Sd), (Pk.follow u.tk x.sq).2.2 = true ∧ (Jb.put u.jt (20 * (i : Int) + trip) ⟨(Pk.follow u.tk x.sq).2.1, time u x, x.mrk, x.ty, x.pl⟩).2.2.2 = 0 ∧ recv0 u (20 * (i : Int) + trip) x = (u', 1, sds) ∧ u'.hd = u.hd ∧
  LisE ls mo trip u' (i + 1) (sq + 1) ((sq : Int) + 1) ∧ sds = (sounds u.seed (Jb.due (20 * (i : Int) + trip) u.jt.q)).2 ∧ u'.jt.q = Jb.left (20 * (i : Int) + trip) u.jt.q ++ [⟨20 * (i : Int) + trip + ls, ⟨x.sq, x.ti, x.mrk, x.ty, x.pl⟩⟩] := by
 have hf := h.follow (by omega)
 rw [← e1] at hf
 have hti : time u x = x.ti := by
  unfold time
  split
  · exact zrr _ _ h.ht.1 h.ht.2 (by omega) (by omega)
  · rfl
 obtain ⟨m, hm⟩ : ∃ m : Jb.Md, m = ⟨x.sq, x.ti, x.mrk, x.ty, x.pl⟩ := ⟨_, rfl⟩
 have hmo : m.ok := by rw [hm]; unfold Jb.Md.ok; simp only; omega
 obtain ⟨s', hput, hq, hnow, _, hE⟩ := h.jt.put hi40 hc t0 t1 h.now m hmo (by rw [hm]; exact e2) (by rw [hm]; have := h.hi; show hi ≤ x.sq; omega)
 have hk : known x ≠ false := by
  unfold known
  rcases hty with e | e
  · rw [e]; simp
  · rw [e]; simp
 have h101 : ¬x.ty = 101 := by
  rcases hty with e | e
  · rcases zao.1 e with e | e | e <;> omega
  · omega
 refine ⟨{ u with tk := ⟨true, x.sq, -1⟩, ht := if u.tk.on = false ∨ u.ht < x.ti then x.ti else u.ht, st := Rep.arrive u.st x.sq (8 * (20 * (i : Int) + trip)) x.ti, jt := s', seed := (sounds u.seed (Jb.due (20 * (i : Int) + trip) u.jt.q)).1 }, _, by rw [hf], by rw [hf, hti, ← hm, hput], ?_, rfl, ⟨?_, h.sp, h.cod, h.tn, .inr ⟨by omega, ?_⟩, ?_, ?_, by push_cast; omega, ?_, h.hl⟩, rfl, ?_⟩
 · unfold recv0
   rw [if_neg hk]
   simp only [hf, hti]
   rw [if_neg (by decide), if_neg h101, ← hm, hput]
 · exact ⟨h.wf.codec, h.wf.src, h.wf.seq, h.wf.time, h.wf.below, h.wf.tvol, h.wf.tcode, h.wf.tst, zbn _ _ h.wf.seed, h.wf.pk, h.wf.oc⟩
 · show (⟨true, x.sq, -1⟩ : Pk.Tr) = ⟨true, ((sq + 1 : Nat) : Int) - 1, -1⟩
   rw [e1]; congr 1; push_cast; omega
 · show 0 ≤ (if u.tk.on = false ∨ u.ht < x.ti then x.ti else u.ht) ∧ (if u.tk.on = false ∨ u.ht < x.ti then x.ti else u.ht) ≤ 9600
   have := h.ht
   split <;> omega
 · have hE2 : Jb.EndJ ls mo trip s' (i + 1) (x.sq + 1) := by rw [hm] at hE; exact hE
   rw [e1] at hE2; exact hE2
 · show s'.now ≤ _
   rw [hnow]; push_cast; omega
 · rw [hq, hm]
theorem LisE.tone (h : LisE ls mo trip u i sq hi) (hi40 : i < 40) (hs : sq ≤ i) (t0 : 0 ≤ trip) (t1 : trip ≤ 65535) (x : Arr) (e1 : x.sq = (sq : Int)) (hty : x.ty = 101) (t : Ev.Tone) (hd : Ev.decT x.pl = (t, 0)) (hd0 : 0 ≤ t.dur) (hd1 : t.dur ≤ 65535) :
 ∃ (u' : Pt) (sds : List Sd), (Pk.follow u.tk x.sq).2.2 = true ∧ (Jb.run u.jt (20 * (i : Int) + trip)).2.2 = 0 ∧ recv0 u (20 * (i : Int) + trip) x = (u', 1, sds) ∧ u'.hd = (Ev.hear u.hd x.ti t).1 ∧
  LisE ls mo trip u' (i + 1) (sq + 1) hi ∧ sds = (sounds u.seed (Jb.due (20 * (i : Int) + trip) u.jt.q)).2 ++ (if (Ev.hear u.hd x.ti t).2 = [] then [] else [⟨20 * (i : Int) + trip, [], (Ev.hear u.hd x.ti t).2⟩]) ∧ u'.jt.q = Jb.left (20 * (i : Int) + trip) u.jt.q := by
 have hf := h.follow (by omega)
 rw [← e1] at hf
 have hr : Jb.run u.jt (20 * (i : Int) + trip) = (Jb.run0 u.jt (20 * (i : Int) + trip), Jb.due (20 * (i : Int) + trip) u.jt.q, 0) := by
  unfold Jb.run; rw [Jb.chk_run h.jt.sm.ok h.now (by omega), if_pos rfl]
 have hk : known x ≠ false := by
  unfold known
  rw [hd, hty]; simp
 have hE := (h.jt.run (by omega) (20 * (i : Int) + trip) h.now (by omega))
 refine ⟨{ u with tk := ⟨true, x.sq, -1⟩, jt := Jb.run0 u.jt (20 * (i : Int) + trip), seed := (sounds u.seed (Jb.due (20 * (i : Int) + trip) u.jt.q)).1, hd := (Ev.hear u.hd x.ti t).1 }, _, by rw [hf], by rw [hr], ?_, rfl, ⟨?_, h.sp, h.cod, h.tn, .inr ⟨by omega, ?_⟩, h.ht, hE, by have := h.hi; push_cast; omega, ?_, ?_⟩, rfl, rfl⟩
 · unfold recv0
   rw [if_neg hk]
   simp only [hf]
   rw [if_neg (by decide), if_pos hty, hd]
   unfold run
   simp only
   rw [hr]
 · exact ⟨h.wf.codec, h.wf.src, h.wf.seq, h.wf.time, h.wf.below, h.wf.tvol, h.wf.tcode, h.wf.tst, zbn _ _ h.wf.seed, h.wf.pk, h.wf.oc⟩
 · show (⟨true, x.sq, -1⟩ : Pk.Tr) = ⟨true, ((sq + 1 : Nat) : Int) - 1, -1⟩
   rw [e1]; congr 1; push_cast; omega
 · show (Jb.run0 u.jt (20 * (i : Int) + trip)).now ≤ _
   show 20 * (i : Int) + trip ≤ _
   push_cast; omega
 · show 0 ≤ (Ev.hear u.hd x.ti t).1.len ∧ (Ev.hear u.hd x.ti t).1.len ≤ 65535
   have hl := h.hl
   unfold Ev.hear
   split
   · exact ⟨hd0, hd1⟩
   split
   · show 0 ≤ max u.hd.len t.dur ∧ max u.hd.len t.dur ≤ 65535; omega
   · exact hl
end
def MI (q : List Jb.Wt) (got want : List Sd) : Prop := ∃ wg wq, want = wg ++ wq ∧ F2 mG (got.filter nok) wg ∧ F2 mQ q wq
theorem MI.nil : MI [] [] [] := ⟨[], [], rfl, .nil, .nil⟩
theorem MI.due {q : List Jb.Wt} {got want : List Sd} (h : MI q got want) (now s : Int) (more : List Sd) (hm : more.filter nok = []) : MI (Jb.left now q) (got ++ ((sounds s (Jb.due now q)).2 ++ more)) want := by
 obtain ⟨wg, wq, rfl, h1, h2⟩ := h
 rw [← Jb.due_left now q] at h2
 obtain ⟨m1, m2, rfl, h3, h4⟩ := F2.split h2
 refine ⟨wg ++ m1, m2, by rw [List.append_assoc], ?_, h4⟩
 rw [List.filter_append, List.filter_append, hm, List.append_nil, zmv]
 exact h1.append (zis _ _ _ h3)
theorem MI.put {q : List Jb.Wt} {got want : List Sd} (h : MI q got want) (a : Jb.Wt) (w : Sd) (hw : mQ a w) : MI (q ++ [a]) got (want ++ [w]) := by
 obtain ⟨wg, wq, rfl, h1, h2⟩ := h
 exact ⟨wg, wq ++ [w], by rw [List.append_assoc], h1, h2.append (.cons hw .nil)⟩
theorem MI.done {got want : List Sd} (h : MI [] got want) : F2 mG (got.filter nok) want := by
 obtain ⟨wg, wq, rfl, h1, h2⟩ := h
 cases h2
 rw [List.append_nil]
 exact h1
theorem filter_at {α : Type} (p : α → Bool) : ∀ (l : List α) (j : Nat) (a : α), l[j]? = some a → p a = true → (l.filter p)[((l.take j).filter p).length]? = some a
 | [], j, a, h, _ => by simp at h
 | b :: l, 0, a, h, hp => by
   simp at h
   rw [h]
   simp [hp]
 | b :: l, j + 1, a, h, hp => by
   have h1 := filter_at p l j a (by simpa using h) hp
   rw [List.take_succ_cons, List.filter_cons, List.filter_cons]
   split
   · simpa using h1
   · exact h1
theorem encS_len (c : Int) (s : Int × Int) (zs : List Int) (hs : speechB c = true) (hv : Dlt.valid s.1 s.2 = true) (hl : zs.length = 160) : (decS c (enc c s zs).1).length = 160 := by
 rcases zao.1 hs with rfl | rfl | rfl
 · simp [decS, enc, hl]
 · simp [decS, enc, hl]
 · show (decS 96 (Dlt.packB s zs)).length = 160
   unfold decS
   rw [if_neg (by decide), if_neg (by decide), if_pos rfl]
   have hf : Dlt.fits (Dlt.packB s zs) 160 := by
    have h : -32768 ≤ s.1 ∧ s.1 ≤ 32767 ∧ 0 ≤ s.2 ∧ s.2 ≤ 88 := by simpa [Dlt.valid, and_assoc] using hv
    refine ⟨by rw [Dlt.packB_len, hl], ?_, ?_, fun h => by omega⟩
    · rw [Dlt.packB_at s zs 2 (by omega)]; show s.2 ≤ 88; omega
    · rw [Dlt.packB_at s zs 3 (by omega)]; rfl
   rw [if_pos hf]
   unfold Dlt.unpackL
   simp
structure EP (k ls mo trip : Int) (p u : Pt) (i sq : Nat) (hi : Int) (f pr : Nat) (cv ci : Int) (want got : List Sd) : Prop where
 sp : SpkE k p i sq
 li : LisE ls mo trip u i sq hi
 ki : KI p.tn u.hd i f
 dn : downs (keysL got) + f = pr
 mi : MI u.jt.q got want
 c1 : cv = p.cv
 c2 : ci = p.ci
 ok : ∀ a ∈ u.jt.q, OkW a
 wle : want.length ≤ i
 gle : got.length + u.jt.q.length ≤ 2 * i
 prl : pr ≤ i + f
 kle : (keysL got).length ≤ 3 * i
theorem KI.le {tn : Ev.Snd} {hd : Ev.Rcv} {i f : Nat} (h : KI tn hd i f) : f ≤ 1 := by cases h <;> omega
theorem zsu (r : Ev.Rcv) (time : Int) (t : Ev.Tone) : (Ev.hear r time t).2.length ≤ 3 := by
 unfold Ev.hear
 split
 · simp only [List.length_append]
   have h1 : (if r.on = true ∧ r.ended = false then [(⟨r.code, false, r.time, r.len⟩ : Ev.Key)] else []).length ≤ 1 := by split <;> simp
   have h2 : (if t.fin = true then [(⟨t.code, false, time, t.dur⟩ : Ev.Key)] else []).length ≤ 1 := by split <;> simp
   simp only [List.length_singleton]; omega
 split
 · show (if t.fin = true then _ else _ : List Ev.Key).length ≤ 3
   split <;> simp
 · simp
theorem keysL_append (a b : List Sd) : keysL (a ++ b) = keysL a ++ keysL b := by unfold keysL; rw [List.flatMap_append]
section
variable {k ls mo trip : Int} {p u : Pt} {i sq : Nat} {hi : Int} {f pr : Nat} {cv ci : Int} {want got : List Sd}
theorem EP.start (hs : speechB k = true) (hc : Jb.cfg ls mo) (t0 : 0 ≤ trip) : EP k ls mo trip (new k 7 ls mo).1 (new k 7 ls mo).1 0 0 0 0 0 0 0 [] [] := by
 have h1 := SpkE.start hs hc
 have h2 := LisE.start (trip := trip) hs hc t0
 have e : new k 7 ls mo = ({ Pt.zero with codec := k, src := 7, mrk := true, jt := (Jb.new ls mo).1, seed := 7 }, 0) := by
  unfold new
  rw [if_neg (by rw [hs]; decide), if_pos hc]
 have hq := h1.jq
 refine ⟨h1, h2, .idle (by rw [e]; rfl) (by rw [e]; rfl) (.inl (by rw [e]; rfl)), rfl, by rw [hq]; exact MI.nil, by rw [e]; rfl, by rw [e]; rfl, ?_, Nat.le_refl _, ?_, Nat.le_refl _, Nat.le_refl _⟩
 · rw [hq]; intro a ha; cases ha
 · rw [hq]; simp
theorem EP.press (h : EP k ls mo trip p u i sq hi 0 pr cv ci want got) (code : Int) (c0 : 0 ≤ code) (c1 : code ≤ 15) (he : (Ev.press p.tn code 10 p.time).2 = 0) : EP k ls mo trip { p with tn := (Ev.press p.tn code 10 p.time).1 } u i sq hi 1 (pr + 1) cv ci want got := by
 have h2 := (h.sp.press code c0 c1).2 he
 have h3 := h.sp.time
 rw [h3] at he
 have h4 := h.ki.press h.sp.tv code he
 rw [← h3] at h4
 exact ⟨h2, h.li, h4, by have := h.dn; omega, h.mi, h.c1, h.c2, h.ok, h.wle, h.gle, by have := h.prl; omega, h.kle⟩
theorem EP.release (h : EP k ls mo trip p u i sq hi 0 pr cv ci want got) (he : (Ev.release p.tn).2 = 0) : EP k ls mo trip { p with tn := (Ev.release p.tn).1 } u i sq hi 0 pr cv ci want got :=
 ⟨h.sp.release.2 he, h.li, h.ki.release h.sp.tv he, h.dn, h.mi, h.c1, h.c2, h.ok, h.wle, h.gle, h.prl, h.kle⟩
theorem EP.pass (h : EP k ls mo trip p u i sq hi f pr cv ci want got) (q : Pt) (hq : SpkE k q (i + 1) sq) (hto : ¬(p.tn.on = true ∨ p.tn.ends ≠ 0)) (h1 : q.tn = p.tn) (h2 : q.cv = p.cv ∧ q.ci = p.ci) : EP k ls mo trip q u (i + 1) sq hi 0 pr cv ci want got := by
 obtain ⟨rfl, hk⟩ := h.ki.pass hto
 have := h.wle
 have := h.gle
 exact ⟨hq, h.li.skip, by rw [h1]; exact hk, h.dn, h.mi, h.c1.trans h2.1.symm, h.c2.trans h2.2.symm, h.ok, by omega, by omega, by have := h.prl; omega, by have := h.kle; omega⟩
theorem zld {q : List Jb.Wt} (h : ∀ a ∈ q, OkW a) (now : Int) : ∀ a ∈ Jb.left now q, OkW a := fun a ha => h a ((Jb.left_sub now q).subset ha)
theorem EP.media (h : EP k ls mo trip p u i sq hi f pr cv ci want got) (hi40 : i < 40) (hc : Jb.cfg ls mo) (t0 : 0 ≤ trip) (t1 : trip ≤ 65535) (q : Pt) (hq : SpkE k q (i + 1) (sq + 1)) (hto : ¬(p.tn.on = true ∨ p.tn.ends ≠ 0)) (h1 : q.tn = p.tn)
 (x : Arr) (e1 : x.sq = (sq : Int)) (e2 : x.ti = 160 * (i : Int)) (hty : speechB x.ty = true ∨ x.ty = 13) (hpl : x.pl.length ≤ 1500) (hpb : ∀ z ∈ x.pl, 0 ≤ z ∧ z ≤ 255) (w : Sd) (hw : mQ ⟨20 * (i : Int) + trip + ls, ⟨x.sq, x.ti, x.mrk, x.ty, x.pl⟩⟩ w) :
 ∃ (u' : Pt) (sds : List Sd), recv0 u (20 * (i : Int) + trip) x = (u', 1, sds) ∧ EP k ls mo trip q u' (i + 1) (sq + 1) ((sq : Int) + 1) 0 pr q.cv q.ci (want ++ [w]) (got ++ sds) := by
 obtain ⟨rfl, hk⟩ := h.ki.pass hto
 obtain ⟨u', sds, _, _, hr, hhd, hL, hsd, hjq⟩ := h.li.media hi40 h.sp.le hc t0 t1 x e1 e2 hty hpl
 have hwl := h.wle
 have hgl := h.gle
 have hdl := congrArg List.length (Jb.due_left (20 * (i : Int) + trip) u.jt.q)
 rw [List.length_append] at hdl
 have hsl := zcq (Jb.due (20 * (i : Int) + trip) u.jt.q) u.seed
 have hm := h.mi.due (20 * (i : Int) + trip) u.seed [] rfl
 rw [List.append_nil, ← hsd] at hm
 refine ⟨u', sds, hr, hq, hL, by rw [h1, hhd]; exact hk, ?_, by rw [hjq]; exact hm.put _ w hw, rfl, rfl, ?_, by simp; omega, ?_, by have := h.prl; omega, by rw [keysL_append, hsd, zcb, List.append_nil]; have := h.kle; omega⟩
 · rw [keysL_append, hsd, zcb, List.append_nil]; exact h.dn
 · rw [hjq]
   intro a ha
   rcases List.mem_append.1 ha with ha | ha
   · exact zld h.ok _ a ha
   · obtain rfl := List.mem_singleton.1 ha
     have hb : 0 ≤ x.ty ∧ x.ty ≤ 255 := by rcases hty with e | e; exact sp_bd e; omega
     exact ⟨hb.1, hb.2, hpb, by show x.pl.length ≤ 8000; omega⟩
 · rw [hjq, List.length_append, List.length_append, hsd, hsl, List.length_singleton]
   omega
theorem EP.tone (h : EP k ls mo trip p u i sq hi f pr cv ci want got) (hi40 : i < 40) (t0 : 0 ≤ trip) (t1 : trip ≤ 65535) (q : Pt) (hq : SpkE k q (i + 1) (sq + 1)) (hto : p.tn.on = true ∨ p.tn.ends ≠ 0) (h1 : q.tn = (Ev.next p.tn 160).s) (h2 : q.cv = p.cv ∧ q.ci = p.ci)
 (x : Arr) (e1 : x.sq = (sq : Int)) (e2 : x.ti = (Ev.next p.tn 160).o.time) (hty : x.ty = 101) (hd : Ev.decT x.pl = ((Ev.next p.tn 160).o.tone, 0)) (hdb : 0 ≤ (Ev.next p.tn 160).o.tone.dur ∧ (Ev.next p.tn 160).o.tone.dur ≤ 65535) :
 ∃ (u' : Pt) (sds : List Sd), recv0 u (20 * (i : Int) + trip) x = (u', 1, sds) ∧ EP k ls mo trip q u' (i + 1) (sq + 1) hi 0 pr cv ci want (got ++ sds) := by
 obtain ⟨hk1, hk2⟩ := h.ki.hear (by omega) h.sp.tv hto
 obtain ⟨u', sds, _, _, hr, hhd, hL, hsd, hjq⟩ := h.li.tone hi40 h.sp.le t0 t1 x e1 hty _ hd hdb.1 hdb.2
 rw [e2] at hhd hsd
 have hwl := h.wle
 have hgl := h.gle
 have hdn := h.dn
 have hdl := congrArg List.length (Jb.due_left (20 * (i : Int) + trip) u.jt.q)
 rw [List.length_append] at hdl
 have hsl := zcq (Jb.due (20 * (i : Int) + trip) u.jt.q) u.seed
 obtain ⟨ks, hks⟩ : ∃ ks, ks = (Ev.hear u.hd (Ev.next p.tn 160).o.time (Ev.next p.tn 160).o.tone).2 := ⟨_, rfl⟩
 rw [← hks] at hsd hk2
 have hnk : (if ks = [] then [] else [(⟨20 * (i : Int) + trip, [], ks⟩ : Sd)]).filter nok = [] := by
  split
  · rfl
  · rename_i h0
    have : nok ⟨20 * (i : Int) + trip, [], ks⟩ = false := by unfold nok; simpa using h0
    simp [this]
 have hkl : keysL (if ks = [] then [] else [(⟨20 * (i : Int) + trip, [], ks⟩ : Sd)]) = ks := by
  split
  · rename_i h0; rw [h0]; rfl
  · unfold keysL; simp
 have hkn : (if ks = [] then [] else [(⟨20 * (i : Int) + trip, [], ks⟩ : Sd)]).length ≤ 1 := by split <;> simp
 have hm := h.mi.due (20 * (i : Int) + trip) u.seed _ hnk
 rw [← hsd] at hm
 refine ⟨u', sds, hr, hq, hL, by rw [h1, hhd]; exact hk1, ?_, by rw [hjq]; exact hm, h.c1.trans h2.1.symm, h.c2.trans h2.2.symm, ?_, by omega, ?_, by have := h.prl; have := h.ki.le; omega, by rw [keysL_append, hsd, keysL_append, zcb, List.nil_append, hkl, List.length_append]; have h8 := h.kle; have h9 := zsu u.hd (Ev.next p.tn 160).o.time (Ev.next p.tn 160).o.tone; rw [← hks] at h9; omega⟩
 · rw [keysL_append, hsd, keysL_append, zcb, List.nil_append, hkl, downs_append, hk2]; omega
 · rw [hjq]; exact zld h.ok _
 · rw [hjq, List.length_append, hsd, List.length_append, hsl]
   omega
theorem EP.done (h : EP k ls mo trip p u i sq hi 0 pr cv ci want got) (hi40 : i ≤ 40) (hc : Jb.cfg ls mo) (t0 : 0 ≤ trip) (t1 : trip ≤ 65535) : chkT u (2800 + trip) = 0 ∧ F2 mG ((got ++ (run u (2800 + trip)).2).filter nok) want ∧ downs (keysL (got ++ (run u (2800 + trip)).2)) = pr ∧ (got ++ (run u (2800 + trip)).2).length ≤ 80 ∧ u.jt.q.length ≤ 80 ∧ (keysL (got ++ (run u (2800 + trip)).2)).length ≤ 120 := by
 have hs := h.sp.le
 obtain ⟨c1, c2, c3⟩ := hc
 have hr : Jb.run u.jt (2800 + trip) = (Jb.run0 u.jt (2800 + trip), Jb.due (2800 + trip) u.jt.q, 0) := by
  have := h.li.now
  unfold Jb.run; rw [Jb.chk_run h.li.jt.sm.ok (by omega) (by omega), if_pos rfl]
 have hl : Jb.left (2800 + trip) u.jt.q = [] := by
  apply List.eq_nil_iff_forall_not_mem.2
  intro w hw
  obtain ⟨q1, q2, q3, q4⟩ := (Jb.okQ_iff _ _ _).1 h.li.jt.sm.ok.2.2.2.2
  have h1 := Jb.left_gt (2800 + trip) u.jt.q q3 w hw
  have h2 := h.li.jt.qat w ((Jb.left_sub _ u.jt.q).subset hw)
  omega
 have hd : Jb.due (2800 + trip) u.jt.q = u.jt.q := by have := Jb.due_left (2800 + trip) u.jt.q; rw [hl, List.append_nil] at this; exact this
 have e : (run u (2800 + trip)).2 = (sounds u.seed (Jb.due (2800 + trip) u.jt.q)).2 := by unfold run; rw [hr]
 have hm := h.mi.due (2800 + trip) u.seed [] rfl
 rw [List.append_nil, hl, ← e] at hm
 have hsl := zcq (Jb.due (2800 + trip) u.jt.q) u.seed
 rw [← e, hd] at hsl
 have hg := h.gle
 refine ⟨h.li.chk (by omega) _ (by omega) (by omega), hm.done, ?_, by rw [List.length_append, hsl]; omega, by omega, by rw [keysL_append, e, zcb, List.append_nil]; have := h.kle; omega⟩
 rw [keysL_append, e, zcb, List.append_nil]
 have := h.dn
 omega
end
end Go.Proofs.YtahbecinkciahaaGreat.Sb
namespace Go.Proofs.YtahbecinkciahaaGreat
attribute [local go_sem ↓] zab zac
attribute [local go_sem] zaa zad
open Go.RowKit
theorem r325 (s : Nat → Value) : ((List.range 325).map s).toArray = #[s 0, s 1, s 2, s 3, s 4, s 5, s 6, s 7, s 8, s 9, s 10, s 11, s 12, s 13, s 14, s 15, s 16, s 17, s 18, s 19, s 20, s 21, s 22, s 23, s 24, s 25, s 26, s 27, s 28, s 29, s 30, s 31, s 32, s 33, s 34, s 35, s 36, s 37, s 38, s 39, s 40, s 41, s 42, s 43, s 44, s 45, s 46, s 47, s 48, s 49, s 50, s 51, s 52, s 53, s 54, s 55, s 56, s 57, s 58, s 59, s 60, s 61, s 62, s 63, s 64, s 65, s 66, s 67, s 68, s 69, s 70, s 71, s 72, s 73, s 74, s 75, s 76, s 77, s 78, s 79, s 80, s 81, s 82, s 83, s 84, s 85, s 86, s 87, s 88, s 89, s 90, s 91, s 92, s 93, s 94, s 95, s 96, s 97, s 98, s 99, s 100, s 101, s 102, s 103, s 104, s 105, s 106, s 107, s 108, s 109, s 110, s 111, s 112, s 113, s 114, s 115, s 116, s 117, s 118, s 119, s 120, s 121, s 122, s 123, s 124, s 125, s 126, s 127, s 128, s 129, s 130, s 131, s 132, s 133, s 134, s 135, s 136, s 137, s 138, s 139, s 140, s 141, s 142, s 143, s 144, s 145, s 146, s 147, s 148, s 149, s 150, s 151, s 152, s 153, s 154, s 155, s 156, s 157, s 158, s 159, s 160, s 161, s 162, s 163, s 164, s 165, s 166, s 167, s 168, s 169, s 170, s 171, s 172, s 173, s 174, s 175, s 176, s 177, s 178, s 179, s 180, s 181, s 182, s 183, s 184, s 185, s 186, s 187, s 188, s 189, s 190, s 191, s 192, s 193, s 194, s 195, s 196, s 197, s 198, s 199, s 200, s 201, s 202, s 203, s 204, s 205, s 206, s 207, s 208, s 209, s 210, s 211, s 212, s 213, s 214, s 215, s 216, s 217, s 218, s 219, s 220, s 221, s 222, s 223, s 224, s 225, s 226, s 227, s 228, s 229, s 230, s 231, s 232, s 233, s 234, s 235, s 236, s 237, s 238, s 239, s 240, s 241, s 242, s 243, s 244, s 245, s 246, s 247, s 248, s 249, s 250, s 251, s 252, s 253, s 254, s 255, s 256, s 257, s 258, s 259, s 260, s 261, s 262, s 263, s 264, s 265, s 266, s 267, s 268, s 269, s 270, s 271, s 272, s 273, s 274, s 275, s 276, s 277, s 278, s 279, s 280, s 281, s 282, s 283, s 284, s 285, s 286, s 287, s 288, s 289, s 290, s 291, s 292, s 293, s 294, s 295, s 296, s 297, s 298, s 299, s 300, s 301, s 302, s 303, s 304, s 305, s 306, s 307, s 308, s 309, s 310, s 311, s 312, s 313, s 314, s 315, s 316, s 317, s 318, s 319, s 320, s 321, s 322, s 323, s 324] := rfl
noncomputable def enA_code : Code := (((findB 1 (Tryz.f6.body.getD .skip)).bind (fromReg 13)).getD .skip)
noncomputable def enB_code : Code := (((findB 1 (Tryz.f6.body.getD .skip)).bind (fromReg 22)).getD .skip)
theorem zuf {w W : World} {g5 ga gu gc M : Nat} {k ls mo trip : Int} {p u : Sb.Pt} {A1 : Option Addr} {c1 : Nat} {A2 : Option Addr} {n2 c2 : Nat} {l2 : List TW} {cv ci : Int} {WA : Option Addr} {wc : Nat} {wl : List TS} {GA : Option Addr} {gk : Nat} {gl : List TY} {i sq : Nat} {hi : Int} {f pr : Nat} {bL oL nL cL : Nat} {Q : Exit → Act → World → Prop} (X : EV w W g5 ga gu gc M ls mo p u A1 c1 A2 n2 c2 l2 cv ci WA wc wl GA gk gl) (E : Sb.EP k ls mo trip p u (i) (sq) (hi) 0 (pr) cv ci (wl.map TS.s) (gl.map TY.s)) (hiL : i < nL) (i40 : i < 40) (hLb : bL < w.heap.size) (key cd : Int) (y0 : 0 ≤ key) (y1 : 0 ≤ cd) (z1 : w.cell? ⟨bL, oL + i * 5 + 1, none⟩ = some (.int .u8 key)) (z2 : w.cell? ⟨bL, oL + i * 5 + 2, none⟩ = some (.int .u8 cd))
 (hQp : ∀ (ch : _) (a : Act) (d : Tmp) (u : Value) (w : World), Q (.panic ch) (a.put (some d) u) w → Q (.panic ch) a w)
 (h : ∀ (W : World) (a : Act) (p : Sb.Pt) (A1 : Option Addr) (c1 f pr : Nat), EV w W g5 ga gu gc M ls mo p u A1 c1 A2 n2 c2 l2 cv ci WA wc wl GA gk gl → Sb.EP k ls mo trip p u (i) (sq) (hi) f (pr) cv ci (wl.map TS.s) (gl.map TY.s) → Fr 325 (EF k ls trip (some ⟨bL, oL, none⟩) nL cL g5 ga gu gc WA wl.length wc GA gl.length gk (pr : Int) (i : Int)) a → firstWp Tryz.prog enB_code Q a W) (a : Act) (ha : Fr 325 (EF k ls trip (some ⟨bL, oL, none⟩) nL cL g5 ga gu gc WA wl.length wc GA gl.length gk (pr : Int) (i : Int)) a) : firstWp Tryz.prog enA_code Q a W := by
 obtain ⟨s, rfl, hs⟩ := ha
 rw [r325]
 obtain ⟨e2, e3, e5, e9, e10, e12, e13, e14, e15, e16, e17, e18, e19, _⟩ := hs
 rw [e2, e10, e17, e19]
 have x1 := (X.be.cell (p := ⟨bL, oL + i * 5 + 1, none⟩) hLb).trans z1
 have x2 := (X.be.cell (p := ⟨bL, oL + i * 5 + 2, none⟩) hLb).trans z2
 have hi0 : (0 : Int) ≤ (i : Int) := by omega
 have hi1 : (i : Int) < (nL : Int) := by omega
 have hgaW := Blk.lt X.ba
 have hgM : ga < M := by have := X.o3; have := X.o4; have := X.o5; omega
 have hprl := E.prl
 have hnq : ∀ V : World, Wts V V.heap.size A1 [] := fun V => ⟨fun h0 => absurd h0 (by simp), fun _ h => by cases h⟩
 clear z2
 by_cases h1 : key % 4 = 1
 · have hc0 : 0 ≤ cd % 16 := by omega
   have hc1 : cd % 16 ≤ 15 := by omega
   have hpr := (E.sp.press (cd % 16) hc0 hc1).1
   have kP : ∀ V : World, Below W.heap.size W V → Calls Tryz.prog 26 #[.agg (PA p A1 0 c1), .int .u8 (Int.tmod cd 16)] V (PortR (Sb.press p (cd % 16)).1 (Sb.press p (cd % 16)).2 V) := fun V hb => by
    rw [Int.tmod_eq_emod_of_nonneg y1]
    exact zmp (l := []) (n := 0) ⟨E.sp.wf, E.sp.jq.symm, rfl, by omega, by omega, X.k1, hnq V, (fun _ h => by cases h), (fun _ h => by cases h)⟩ rfl _
   by_cases he : (Ev.press p.tn (cd % 16) 10 p.time).2 = 0
   · have E2 := E.press (cd % 16) hc0 hc1 he
     obtain ⟨q, hq⟩ : ∃ q : Sb.Pt, q = { p with tn := (Ev.press p.tn (cd % 16) 10 p.time).1 } := ⟨_, rfl⟩
     have hR : Sb.press p (cd % 16) = (q, 0) := by rw [hpr, if_pos he, he, hq]
     rw [← hq] at E2
     rw [hR] at kP
     have HE2 := H9 E2
     have hqj := E2.sp.jq
     clear hpr hR hq he E2 hc0 hc1
     refine zbe ?_
     intro _ _ _ _
     go_upto_region 14 with fail
     refine zos ga bL oL nL cL i hiL (by omega) cd y1 p A1 c1 (q, 0) W x2 X.ba hqj kP ?_ ?_
     · intro _ _ _ _ _ h; exact hQp _ _ _ _ _ h
     clear kP hqj
     intro wx g3 A' c' u75 u76 u77 u78 u79 u80 u81 u82 u83 u84 u85 HB3 hc3 hg3 HBL
     replace X := X.later HBL.out
     have hg3a : g3 ≠ ga := by omega
     clear HBL x1 x2
     go_upto_region 17 with (first | (refine zae rfl 48 (.tmp 20) rfl (g3) 0 rfl 48 (PL q A' 0 c') HB3.out 48 _ Tryz.underlying48 zag (show 0 + 48 ≤ 48 by decide) (PA q A' 0 c') (by rfl) rfl ?_) | (refine zaf rfl 48 (.tmp 10) (.tmp 88) rfl (ga) 0 rfl 48 (PL p A1 0 c1) X.ba (PL q A' 0 c') rfl zag (show 0 + 48 ≤ 48 by decide) rfl (PL q A' 0 c') rfl ?_; intro WF BF OF) | fail)
     replace X := X.boxA OF BF hc3
     clear BF OF HB3
     have x1 := (X.be.cell (p := ⟨bL, oL + i * 5 + 1, none⟩) hLb).trans z1
     go_upto_region 22 with fail
     refine zbp (by assumption) ?_
     exact h _ _ _ _ _ _ _ X HE2.out (Fr.mk rfl ⟨rfl, rfl, rfl, rfl, rfl, rfl, rfl, rfl, rfl, rfl, rfl, rfl, rfl, trivial⟩)
   · have hR : Sb.press p (cd % 16) = (Sb.Pt.zero, (Ev.press p.tn (cd % 16) 10 p.time).2) := by rw [hpr, if_neg he]
     generalize (Ev.press p.tn (cd % 16) 10 p.time).2 = er at *
     rw [hR] at kP
     clear hpr hR hc0 hc1
     refine zbe ?_
     intro _ _ _ _
     go_upto_region 14 with fail
     refine zos ga bL oL nL cL i hiL (by omega) cd y1 p A1 c1 (Sb.Pt.zero, er) W x2 X.ba rfl kP ?_ ?_
     · intro _ _ _ _ _ h; exact hQp _ _ _ _ _ h
     clear kP
     intro wx g3 A' c' u75 u76 u77 u78 u79 u80 u81 u82 u83 u84 u85 HB3 hc3 hg3 HBL
     replace X := X.later HBL.out
     clear HBL x1 x2
     have x1 := (X.be.cell (p := ⟨bL, oL + i * 5 + 1, none⟩) hLb).trans z1
     go_upto_region 22 with fail
     refine zbp (by assumption) ?_
     exact h _ _ _ _ _ _ _ X E (Fr.mk rfl ⟨rfl, rfl, rfl, rfl, rfl, rfl, rfl, rfl, rfl, rfl, rfl, rfl, rfl, trivial⟩)
 by_cases h2 : key % 4 = 2
 · have hpr := E.sp.release.1
   have kP := fun V : World => zin (w := V) (p := p) (A := A1) (l := []) (n := 0) (c := c1) (X := PA p A1 0 c1) ⟨E.sp.wf, E.sp.jq.symm, rfl, by omega, by omega, X.k1, hnq V, (fun _ h => by cases h), (fun _ h => by cases h)⟩ rfl
   by_cases he : (Ev.release p.tn).2 = 0
   · have E2 := E.release he
     obtain ⟨q, hq⟩ : ∃ q : Sb.Pt, q = { p with tn := (Ev.release p.tn).1 } := ⟨_, rfl⟩
     have hR : Sb.release p = (q, 0) := by rw [hpr, if_pos he, he, hq]
     rw [← hq] at E2
     rw [hR] at kP
     have HE2 := H9 E2
     have hqj := H9 E2.sp.jq
     clear hpr hR hq he E2
     replace kP := H9 kP
     refine zbe ?_
     intro _ _ _ _
     go_upto_region 19 with fail
     go_wp2_with (first | (refine zae rfl 48 (.tmp 10) rfl (ga) 0 rfl 48 (PL p A1 0 c1) X.ba 48 _ Tryz.underlying48 zag (show 0 + 48 ≤ 48 by decide) (PA p A1 0 c1) (by rfl) rfl ?_) | fail)
     refine (kP.out _).mono ?_
     rintro e w2 ⟨A', n', c', l', rfl, hq1, hn, hc1, hc2, hW, hb1⟩
     obtain rfl : l' = [] := List.map_eq_nil_iff.1 (hq1.trans hqj.out)
     obtain rfl : 0 = n' := hn
     replace X := X.later hb1
     have hga2 := Blk.lt X.ba
     clear hb1 hW hq1 hc1 kP
     have BZ : Blk (w2.alloc (Obj.cells (PA Sb.Pt.zero none 0 0) 48)) w2.heap.size 48 (PL Sb.Pt.zero none 0 0).toArray := Blk.new _ _ _
     go_upto_region 20 with (first | (refine zaf rfl 48 (.tmp 22) (.tmp 101) rfl (w2.heap.size) 0 rfl 48 (PL Sb.Pt.zero none 0 0) BZ (PL q A' 0 c') rfl zag (show 0 + 48 ≤ 48 by decide) rfl (PL q A' 0 c') rfl ?_; intro WB HB3 OB) | fail)
     replace X := X.later (OB.below ((Below.refl _ w2).alloc (Nat.le_refl _) _) (by simp) (Nat.le_refl _))
     obtain ⟨g3, hg3⟩ : ∃ g, g = w2.heap.size := ⟨_, rfl⟩
     rw [← hg3] at HB3 hga2 ⊢
     clear hg3 OB BZ
     have hg3a : g3 ≠ ga := by omega
     go_upto_region 22 with (first | (refine zae rfl 48 (.tmp 22) rfl (g3) 0 rfl 48 (PL q A' 0 c') HB3 48 _ Tryz.underlying48 zag (show 0 + 48 ≤ 48 by decide) (PA q A' 0 c') (by rfl) rfl ?_) | (refine zaf rfl 48 (.tmp 10) (.tmp 105) rfl (ga) 0 rfl 48 (PL p A1 0 c1) X.ba (PL q A' 0 c') rfl zag (show 0 + 48 ≤ 48 by decide) rfl (PL q A' 0 c') rfl ?_; intro WF BF OF) | fail)
     replace X := X.boxA OF BF hc2
     clear BF OF HB3
     refine zbp (by assumption) ?_
     exact h _ _ _ _ _ _ _ X HE2.out (Fr.mk rfl ⟨rfl, rfl, rfl, rfl, rfl, rfl, rfl, rfl, rfl, rfl, rfl, rfl, rfl, trivial⟩)
   · have hR : Sb.release p = (Sb.Pt.zero, (Ev.release p.tn).2) := by rw [hpr, if_neg he]
     generalize (Ev.release p.tn).2 = er at *
     rw [hR] at kP
     have hqj := H9 (show (Sb.Pt.zero, er).1.jt.q = [] from rfl)
     clear hpr hR
     replace kP := H9 kP
     refine zbe ?_
     intro _ _ _ _
     go_upto_region 19 with fail
     go_wp2_with (first | (refine zae rfl 48 (.tmp 10) rfl (ga) 0 rfl 48 (PL p A1 0 c1) X.ba 48 _ Tryz.underlying48 zag (show 0 + 48 ≤ 48 by decide) (PA p A1 0 c1) (by rfl) rfl ?_) | fail)
     refine (kP.out _).mono ?_
     rintro e w2 ⟨A', n', c', l', rfl, hq1, hn, hc1, hc2, hW, hb1⟩
     obtain rfl : l' = [] := List.map_eq_nil_iff.1 (hq1.trans hqj.out)
     obtain rfl : 0 = n' := hn
     replace X := X.later hb1
     have hga2 := Blk.lt X.ba
     clear hb1 hW hq1 hc1 kP
     have BZ : Blk (w2.alloc (Obj.cells (PA Sb.Pt.zero none 0 0) 48)) w2.heap.size 48 (PL Sb.Pt.zero none 0 0).toArray := Blk.new _ _ _
     go_upto_region 20 with (first | (refine zaf rfl 48 (.tmp 22) (.tmp 101) rfl (w2.heap.size) 0 rfl 48 (PL Sb.Pt.zero none 0 0) BZ (PL Sb.Pt.zero A' 0 c') rfl zag (show 0 + 48 ≤ 48 by decide) rfl (PL Sb.Pt.zero A' 0 c') rfl ?_; intro WB HB3 OB) | fail)
     replace X := X.later (OB.below ((Below.refl _ w2).alloc (Nat.le_refl _) _) (by simp) (Nat.le_refl _))
     obtain ⟨g3, hg3⟩ : ∃ g, g = w2.heap.size := ⟨_, rfl⟩
     rw [← hg3] at HB3 hga2 ⊢
     clear hg3 OB BZ
     have hg3a : g3 ≠ ga := by omega
     go_upto_region 22 with fail
     refine zbp (by assumption) ?_
     exact h _ _ _ _ _ _ _ X E (Fr.mk rfl ⟨rfl, rfl, rfl, rfl, rfl, rfl, rfl, rfl, rfl, rfl, rfl, rfl, rfl, trivial⟩)
 · refine zbe ?_
   intro _ _ _ _
   go_upto_region 22 with fail
   refine zbp (by assumption) ?_
   exact h _ _ _ _ _ _ _ X E (Fr.mk rfl ⟨rfl, rfl, rfl, rfl, rfl, rfl, rfl, rfl, rfl, rfl, rfl, rfl, rfl, trivial⟩)
end Go.Proofs.YtahbecinkciahaaGreat
namespace Go.Proofs.YtahbecinkciahaaGreat
attribute [local go_sem ↓] Go.wp_at_zero Go.wp_at_succ
attribute [local go_sem] zaa zad
open Go.RowKit
theorem zfv (c : Int) (f : Bool) (v d : Int) (w : World) (v0 : 0 ≤ v) (h' : v ≤ 63) (d0 : 0 ≤ d) (d1 : d ≤ 65535) : Calls Tryz.prog 74 #[.agg #[.int .u8 c, .bool f, .int .u8 v, .int .u16 d]] w fun e w' => ∃ A' : Option Addr, e = .returned (.tuple #[.slice A' 4 4, .int .u8 0]) ∧ IntsNew w.heap.size w' .u8 A' (Ev.encT c f v d).1 ∧ Below w.heap.size w w' := by
 unfold Ev.encT
 rw [if_neg (by omega)]
 cases f
 all_goals
  go_enter Tryz.func74, Tryz.ntmps74
  go_wp2
  go_ret2
  refine ⟨some ⟨w.heap.size + 1, 0, none⟩, rfl, ⟨?_, fun _ b o e => by injection e with e; injection e with e1 _; omega⟩, ((Below.refl _ _).alloc (Nat.le_refl _) _).alloc (by simp) _⟩
  refine IntsAt.lit1 w _ 5 .u8 _ _ ?_
  simp
  try omega
end Go.Proofs.YtahbecinkciahaaGreat
namespace Go.Proofs.YtahbecinkciahaaGreat
attribute [local go_sem ↓] zab zac
attribute [local go_sem] zaa zad
open Go.RowKit
section
variable (on : Bool) (code vol start len ends n : Int) (w : World)
theorem zqt (hv : Ev.Snd.valid ⟨on, code, vol, start, len, ends⟩ = false) :
 Calls Tryz.prog 73 #[.agg #[.bool on, .int .u8 code, .int .u8 vol, .int .u32 start, .int .i64 len, .int .i64 ends], .int .i64 n] w fun e w' => e = .returned (.tuple #[.agg (Ev.next ⟨on, code, vol, start, len, ends⟩ n).s.row, .agg #[.int .u32 (Ev.next ⟨on, code, vol, start, len, ends⟩ n).o.time, .bool (Ev.next ⟨on, code, vol, start, len, ends⟩ n).o.marker, .int .u8 (Ev.next ⟨on, code, vol, start, len, ends⟩ n).o.tone.code, .bool (Ev.next ⟨on, code, vol, start, len, ends⟩ n).o.tone.fin, .int .u8 (Ev.next ⟨on, code, vol, start, len, ends⟩ n).o.tone.vol, .int .u16 (Ev.next ⟨on, code, vol, start, len, ends⟩ n).o.tone.dur], .bool (Ev.next ⟨on, code, vol, start, len, ends⟩ n).some, .int .u8 (Ev.next ⟨on, code, vol, start, len, ends⟩ n).err]) ∧ Below w.heap.size w w' := by
 have k1 := H9 fun W => zbc on code vol start len ends W
 rw [hv] at k1
 obtain ⟨R, hR⟩ : ∃ R, R = Ev.next ⟨on, code, vol, start, len, ends⟩ n := ⟨_, rfl⟩
 rw [← hR]
 unfold Ev.next at hR
 rw [hv] at hR
 skip
 have HR := H9 hR
 clear hv hR
 go_enter Tryz.func73, Tryz.ntmps73
 go_wp2_with (go_at_call 126; refine (k1.out _).mono ?_; rintro e w1 ⟨rfl, rfl⟩)
 all_goals
  refine bodyPost_ret (v := .tuple #[.agg R.s.row, .agg #[.int .u32 R.o.time, .bool R.o.marker, .int .u8 R.o.tone.code, .bool R.o.tone.fin, .int .u8 R.o.tone.vol, .int .u16 R.o.tone.dur], .bool R.some, .int .u8 R.err]) ?_ rfl ⟨rfl, ?_⟩
  · have hR := HR.out
    first
     | (simp_all [results, Tryz.results73, go_sem, Ev.Snd.zero, Ev.Snd.row, Ev.Out.zero, Ev.Tone.zero]; done)
     | (simp_all [results, Tryz.results73, go_sem, Ev.Snd.zero, Ev.Snd.row, Ev.Out.zero, Ev.Tone.zero]; (repeat' split) <;> first | omega | (simp_all; done) | (simp_all; omega))
  · repeat (first | exact Below.refl _ _ | refine Below.drew ?_ | refine Below.setCell ?_ (by simp) _ | refine Below.alloc ?_ (by simp; try omega) _)
theorem zmw (hv : Ev.Snd.valid ⟨on, code, vol, start, len, ends⟩ = true) (hn : n < 1 ∨ 8000 < n) :
 Calls Tryz.prog 73 #[.agg #[.bool on, .int .u8 code, .int .u8 vol, .int .u32 start, .int .i64 len, .int .i64 ends], .int .i64 n] w fun e w' => e = .returned (.tuple #[.agg (Ev.next ⟨on, code, vol, start, len, ends⟩ n).s.row, .agg #[.int .u32 (Ev.next ⟨on, code, vol, start, len, ends⟩ n).o.time, .bool (Ev.next ⟨on, code, vol, start, len, ends⟩ n).o.marker, .int .u8 (Ev.next ⟨on, code, vol, start, len, ends⟩ n).o.tone.code, .bool (Ev.next ⟨on, code, vol, start, len, ends⟩ n).o.tone.fin, .int .u8 (Ev.next ⟨on, code, vol, start, len, ends⟩ n).o.tone.vol, .int .u16 (Ev.next ⟨on, code, vol, start, len, ends⟩ n).o.tone.dur], .bool (Ev.next ⟨on, code, vol, start, len, ends⟩ n).some, .int .u8 (Ev.next ⟨on, code, vol, start, len, ends⟩ n).err]) ∧ Below w.heap.size w w' := by
 have k1 := H9 fun W => zbc on code vol start len ends W
 rw [hv] at k1
 obtain ⟨R, hR⟩ : ∃ R, R = Ev.next ⟨on, code, vol, start, len, ends⟩ n := ⟨_, rfl⟩
 rw [← hR]
 unfold Ev.next at hR
 rw [hv] at hR
 skip
 have HR := H9 hR
 clear hv hR
 rcases hn with hn | hn
 all_goals
  go_enter Tryz.func73, Tryz.ntmps73
  go_wp2_with (go_at_call 126; refine (k1.out _).mono ?_; rintro e w1 ⟨rfl, rfl⟩)
  all_goals
   refine bodyPost_ret (v := .tuple #[.agg R.s.row, .agg #[.int .u32 R.o.time, .bool R.o.marker, .int .u8 R.o.tone.code, .bool R.o.tone.fin, .int .u8 R.o.tone.vol, .int .u16 R.o.tone.dur], .bool R.some, .int .u8 R.err]) ?_ rfl ⟨rfl, ?_⟩
   · have hR := HR.out
     first
      | (simp_all [results, Tryz.results73, go_sem, Ev.Snd.zero, Ev.Snd.row, Ev.Out.zero, Ev.Tone.zero]; done)
      | (simp_all [results, Tryz.results73, go_sem, Ev.Snd.zero, Ev.Snd.row, Ev.Out.zero, Ev.Tone.zero]; (repeat' split) <;> first | omega | (simp_all; done) | (simp_all; omega))
   · repeat (first | exact Below.refl _ _ | refine Below.drew ?_ | refine Below.setCell ?_ (by simp) _ | refine Below.alloc ?_ (by simp; try omega) _)
theorem zsv (hv : Ev.Snd.valid ⟨true, code, vol, start, len, ends⟩ = true) (hn0 : 1 ≤ n) (hn1 : n ≤ 8000) :
 Calls Tryz.prog 73 #[.agg #[.bool true, .int .u8 code, .int .u8 vol, .int .u32 start, .int .i64 len, .int .i64 ends], .int .i64 n] w fun e w' => e = .returned (.tuple #[.agg (Ev.next ⟨true, code, vol, start, len, ends⟩ n).s.row, .agg #[.int .u32 (Ev.next ⟨true, code, vol, start, len, ends⟩ n).o.time, .bool (Ev.next ⟨true, code, vol, start, len, ends⟩ n).o.marker, .int .u8 (Ev.next ⟨true, code, vol, start, len, ends⟩ n).o.tone.code, .bool (Ev.next ⟨true, code, vol, start, len, ends⟩ n).o.tone.fin, .int .u8 (Ev.next ⟨true, code, vol, start, len, ends⟩ n).o.tone.vol, .int .u16 (Ev.next ⟨true, code, vol, start, len, ends⟩ n).o.tone.dur], .bool (Ev.next ⟨true, code, vol, start, len, ends⟩ n).some, .int .u8 (Ev.next ⟨true, code, vol, start, len, ends⟩ n).err]) ∧ Below w.heap.size w w' := by
 have k1 := H9 fun W => zbc true code vol start len ends W
 rw [hv] at k1
 obtain ⟨R, hR⟩ : ∃ R, R = Ev.next ⟨true, code, vol, start, len, ends⟩ n := ⟨_, rfl⟩
 rw [← hR]
 unfold Ev.next at hR
 rw [hv] at hR
 obtain ⟨b1, b2, b3, b4, b5, b6⟩ := zfd hv
 obtain rfl := b6 rfl
 have HR := H9 hR
 clear hv hR
 go_enter Tryz.func73, Tryz.ntmps73
 go_wp2_with (go_at_call 126; refine (k1.out _).mono ?_; rintro e w1 ⟨rfl, rfl⟩)
 all_goals (try (go_region; go_wp2))
 all_goals
  refine bodyPost_ret (v := .tuple #[.agg R.s.row, .agg #[.int .u32 R.o.time, .bool R.o.marker, .int .u8 R.o.tone.code, .bool R.o.tone.fin, .int .u8 R.o.tone.vol, .int .u16 R.o.tone.dur], .bool R.some, .int .u8 R.err]) ?_ rfl ⟨rfl, ?_⟩
  · have hR := HR.out
    first
     | (simp_all [results, Tryz.results73, go_sem, Ev.Snd.zero, Ev.Snd.row, Ev.Out.zero, Ev.Tone.zero]; done)
     | (simp_all [results, Tryz.results73, go_sem, Ev.Snd.zero, Ev.Snd.row, Ev.Out.zero, Ev.Tone.zero]; (repeat' split) <;> first | omega | (simp_all; done) | (simp_all; omega))
  · repeat (first | exact Below.refl _ _ | refine Below.drew ?_ | refine Below.setCell ?_ (by simp) _ | refine Below.alloc ?_ (by simp; try omega) _)
theorem zqu (hv : Ev.Snd.valid ⟨false, code, vol, start, len, ends⟩ = true) (hn0 : 1 ≤ n) (hn1 : n ≤ 8000) :
 Calls Tryz.prog 73 #[.agg #[.bool false, .int .u8 code, .int .u8 vol, .int .u32 start, .int .i64 len, .int .i64 ends], .int .i64 n] w fun e w' => e = .returned (.tuple #[.agg (Ev.next ⟨false, code, vol, start, len, ends⟩ n).s.row, .agg #[.int .u32 (Ev.next ⟨false, code, vol, start, len, ends⟩ n).o.time, .bool (Ev.next ⟨false, code, vol, start, len, ends⟩ n).o.marker, .int .u8 (Ev.next ⟨false, code, vol, start, len, ends⟩ n).o.tone.code, .bool (Ev.next ⟨false, code, vol, start, len, ends⟩ n).o.tone.fin, .int .u8 (Ev.next ⟨false, code, vol, start, len, ends⟩ n).o.tone.vol, .int .u16 (Ev.next ⟨false, code, vol, start, len, ends⟩ n).o.tone.dur], .bool (Ev.next ⟨false, code, vol, start, len, ends⟩ n).some, .int .u8 (Ev.next ⟨false, code, vol, start, len, ends⟩ n).err]) ∧ Below w.heap.size w w' := by
 have k1 := H9 fun W => zbc false code vol start len ends W
 rw [hv] at k1
 obtain ⟨R, hR⟩ : ∃ R, R = Ev.next ⟨false, code, vol, start, len, ends⟩ n := ⟨_, rfl⟩
 rw [← hR]
 unfold Ev.next at hR
 rw [hv] at hR
 obtain ⟨b1, b2, b3, b4, b5, b6⟩ := zfd hv
 have HR := H9 hR
 clear hv hR
 go_enter Tryz.func73, Tryz.ntmps73
 go_wp2_with (go_at_call 126; refine (k1.out _).mono ?_; rintro e w1 ⟨rfl, rfl⟩)
 all_goals (try (go_region; go_wp2))
 all_goals
  refine bodyPost_ret (v := .tuple #[.agg R.s.row, .agg #[.int .u32 R.o.time, .bool R.o.marker, .int .u8 R.o.tone.code, .bool R.o.tone.fin, .int .u8 R.o.tone.vol, .int .u16 R.o.tone.dur], .bool R.some, .int .u8 R.err]) ?_ rfl ⟨rfl, ?_⟩
  · have hR := HR.out
    first
     | (simp_all [results, Tryz.results73, go_sem, Ev.Snd.zero, Ev.Snd.row, Ev.Out.zero, Ev.Tone.zero]; done)
     | (simp_all [results, Tryz.results73, go_sem, Ev.Snd.zero, Ev.Snd.row, Ev.Out.zero, Ev.Tone.zero]; (repeat' split) <;> first | omega | (simp_all; done) | (simp_all; omega))
  · repeat (first | exact Below.refl _ _ | refine Below.drew ?_ | refine Below.setCell ?_ (by simp) _ | refine Below.alloc ?_ (by simp; try omega) _)
theorem zqv :
 Calls Tryz.prog 73 #[.agg #[.bool on, .int .u8 code, .int .u8 vol, .int .u32 start, .int .i64 len, .int .i64 ends], .int .i64 n] w fun e w' => e = .returned (.tuple #[.agg (Ev.next ⟨on, code, vol, start, len, ends⟩ n).s.row, .agg #[.int .u32 (Ev.next ⟨on, code, vol, start, len, ends⟩ n).o.time, .bool (Ev.next ⟨on, code, vol, start, len, ends⟩ n).o.marker, .int .u8 (Ev.next ⟨on, code, vol, start, len, ends⟩ n).o.tone.code, .bool (Ev.next ⟨on, code, vol, start, len, ends⟩ n).o.tone.fin, .int .u8 (Ev.next ⟨on, code, vol, start, len, ends⟩ n).o.tone.vol, .int .u16 (Ev.next ⟨on, code, vol, start, len, ends⟩ n).o.tone.dur], .bool (Ev.next ⟨on, code, vol, start, len, ends⟩ n).some, .int .u8 (Ev.next ⟨on, code, vol, start, len, ends⟩ n).err]) ∧ Below w.heap.size w w' := by
 cases hv : Ev.Snd.valid ⟨on, code, vol, start, len, ends⟩
 · exact zqt on code vol start len ends n w hv
 · by_cases hn : n < 1 ∨ 8000 < n
   · exact zmw on code vol start len ends n w hv hn
   · cases on
     · exact zqu code vol start len ends n w hv (by omega) (by omega)
     · exact zsv code vol start len ends n w hv (by omega) (by omega)
end
theorem zqw : (Tryz.prog.info? 108).map (·.size) = some 4 := by kernel_rfl
theorem zsw {w W : World} {p : Sb.Pt} {A : Option Addr} {l : List TW} {n c : Nat} {gl gq : Nat} {ZA : Option Addr} {zs : List Int} {zc : Nat} {A0 : Option Addr} {l0 : List TW} {n0 c0 : Nat} (C : SC w p A0 l0 n0 c0 ZA zs zc) (S : SS w W gl p A n c l none 0 0) (BQ : Blk W gq 33 #[.int .i64 (Ev.quiet p.below zs)]) (hgq : gl < gq) (hto : p.tn.on = true ∨ p.tn.ends ≠ 0) (a : Act) (ha : FrS w.heap.size gl gq ZA zc (Ev.quiet p.below zs == 10) a) : firstWp Tryz.prog sdB_code (bodyPost Tryz.prog Tryz.f23 (SendR ({ (Sb.emit { p with tn := (Ev.next p.tn 160).s } 101 (Ev.next p.tn 160).o.time (Ev.next p.tn 160).o.marker (Ev.encT (Ev.next p.tn 160).o.tone.code (Ev.next p.tn 160).o.tone.fin (Ev.next p.tn 160).o.tone.vol (Ev.next p.tn 160).o.tone.dur).1).1 with below := 0, mrk := true, time := (p.time + 160) % 4294967296 }, [(Sb.emit { p with tn := (Ev.next p.tn 160).s } 101 (Ev.next p.tn 160).o.time (Ev.next p.tn 160).o.marker (Ev.encT (Ev.next p.tn 160).o.tone.code (Ev.next p.tn 160).o.tone.fin (Ev.next p.tn 160).o.tone.vol (Ev.next p.tn 160).o.tone.dur).1).2]) w)) a W := by
 obtain ⟨s, rfl, e1, e2, e4, e7, e8, e9, e10, _⟩ := ha
 rw [r139, e1, e2, e4, e7, e8, e9, e10]
 clear e1 e2 e4 e7 e8 e9 e10
 have hvt : p.tn.valid = true := by
  have hv := C.v
  unfold Sb.Pt.valid at hv
  simp only [Bool.and_eq_true] at hv
  exact hv.1.2
 obtain ⟨x1, x2, x3, x4⟩ := Sb.next_some p.tn hvt hto C.wf.tvol.1
 have k1 : ∀ W : World, Calls Tryz.prog 73 #[.agg #[.bool p.tn.on, .int .u8 p.tn.code, .int .u8 p.tn.vol, .int .u32 p.tn.start, .int .i64 p.tn.len, .int .i64 p.tn.ends], .int .i64 160] W fun e w' => e = .returned (.tuple #[.agg (Ev.next p.tn 160).s.row, .agg #[.int .u32 (Ev.next p.tn 160).o.time, .bool (Ev.next p.tn 160).o.marker, .int .u8 (Ev.next p.tn 160).o.tone.code, .bool (Ev.next p.tn 160).o.tone.fin, .int .u8 (Ev.next p.tn 160).o.tone.vol, .int .u16 (Ev.next p.tn 160).o.tone.dur], .bool (Ev.next p.tn 160).some, .int .u8 (Ev.next p.tn 160).err]) ∧ Below W.heap.size W w' := fun W => zqv p.tn.on p.tn.code p.tn.vol p.tn.start p.tn.len p.tn.ends 160 W
 rw [x1, x2] at k1
 have HTC := H9 (Sb.next_wf p.tn 160 C.wf.tvol C.wf.tcode C.wf.tst)
 generalize Ev.next p.tn 160 = NX at *
 obtain ⟨T, ⟨ot, om, ⟨oc, of_, ov, od⟩⟩, os_, oe⟩ := NX
 simp only at k1 x3 x4 HTC ⊢
 unfold Ev.Snd.row at k1
 replace k1 := H9 k1
 have k2 := H9 fun W => zfv oc of_ ov od W x3.1 x3.2 x4.1 x4.2
 have hpl : (Ev.encT oc of_ ov od).1.length = 4 := by unfold Ev.encT; rw [if_neg (by omega)]; rfl
 generalize (Ev.encT oc of_ ov od).1 = bs at *
 have HW5 := H9 (show ({ p with tn := T } : Sb.Pt).wf from ⟨C.wf.codec, C.wf.src, C.wf.seq, C.wf.time, C.wf.below, HTC.out.1, HTC.out.2.1, HTC.out.2.2, C.wf.seed, C.wf.pk, C.wf.oc⟩)
 obtain ⟨q9, hq9⟩ : ∃ q, q = (Sb.emit { p with tn := T } 101 ot om bs).1 := ⟨_, rfl⟩
 obtain ⟨k9, hk9⟩ : ∃ k, k = (Sb.emit { p with tn := T } 101 ot om bs).2 := ⟨_, rfl⟩
 rw [← hq9, ← hk9]
 have HQ9 := H9 hq9
 have HK9 := H9 hk9
 have H9T := H9 (show q9.time = p.time by rw [hq9]; rfl)
 have H9P := H9 (show k9.pl = bs by rw [hk9]; rfl)
 have k6 := fun (A8 : Option Addr) (V : World) hM hL => zgw [gl, w.heap.size + 1, w.heap.size] w.heap.size gl { p with tn := T } HW5.out A n c l 101 ot om A8 bs 4 V hM (by simp) (by simp) (by have := S.lt; omega) hL (by omega)
 unfold EmitR at k6
 rw [hpl] at k6
 replace k6 := H9 k6
 clear hq9 hk9 x1 x2 x3 x4 hvt BQ hpl
 refine zhh ?_
 intro _ _
 have hgg := S.lt
 have x8 := S.cell 8 _ rfl
 have x13 := S.cell 13 _ rfl
 have hto2 : p.tn.on = true ∨ (p.tn.on = false ∧ ¬p.tn.ends = 0) := by
  cases ho : p.tn.on
  · exact .inr ⟨rfl, by rcases hto with h | h; rw [ho] at h; cases h; exact h⟩
  · exact .inl rfl
 clear hto
 have hglg : gl < W.heap.size := S.bl.lt
 have hWs := S.u.size
 rcases hto2 with h8 | ⟨h8, h13⟩
 all_goals
  rw [h8] at x8
  clear h8
 all_goals go_upto_region 15 with fail
 all_goals
  clear x8
  have x8 := S.cell 8 _ rfl
  go_wp2_with (first | (refine zae rfl 35 (.tmp 83) rfl (w.heap.size) 8 rfl 48 (PL p A n c) S.m.box 6 _ Tryz.underlying35 zcd (show 8 + 6 ≤ 48 by decide) (#[.bool p.tn.on, .int .u8 p.tn.code, .int .u8 p.tn.vol, .int .u32 p.tn.start, .int .i64 p.tn.len, .int .i64 p.tn.ends]) (by rfl) rfl ?_) | fail)
  refine (k1.out _).mono ?_
  rintro e w4 ⟨rfl, hb1⟩
  replace S := S.later hb1
  clear hb1 x8 x13
  have hg3w : w.heap.size ≤ w4.heap.size := S.u.size
  have BT := H9 ((Blk.new w4 35 #[.bool T.on, .int .u8 T.code, .int .u8 T.vol, .int .u32 T.start, .int .i64 T.len, .int .i64 T.ends]).push (.cells #[.int .u32 ot, .bool om, .int .u8 oc, .bool of_, .int .u8 ov, .int .u16 od] 143))
  have BO := H9 (Blk.new1 w4 (.cells #[.bool T.on, .int .u8 T.code, .int .u8 T.vol, .int .u32 T.start, .int .i64 T.len, .int .i64 T.ends] 35) 143 #[.int .u32 ot, .bool om, .int .u8 oc, .bool of_, .int .u8 ov, .int .u16 od])
  replace S := (S.push (.cells #[.bool T.on, .int .u8 T.code, .int .u8 T.vol, .int .u32 T.start, .int .i64 T.len, .int .i64 T.ends] 35)).push (.cells #[.int .u32 ot, .bool om, .int .u8 oc, .bool of_, .int .u8 ov, .int .u16 od] 143)
  obtain ⟨g3, hg3⟩ : ∃ g, g = w4.heap.size := ⟨_, rfl⟩
  obtain ⟨W5, hW5⟩ : ∃ V, V = (w4.alloc (Obj.cells #[.bool T.on, .int .u8 T.code, .int .u8 T.vol, .int .u32 T.start, .int .i64 T.len, .int .i64 T.ends] 35)).alloc (Obj.cells #[.int .u32 ot, .bool om, .int .u8 oc, .bool of_, .int .u8 ov, .int .u16 od] 143) := ⟨_, rfl⟩
  rw [← hg3, ← hW5] at BT BO
  rw [← hg3] at hg3w
  go_upto_region 16 with fail
  rw [← hg3]
  rw [← hW5] at S ⊢
  clear hW5 hg3
  go_upto_region 19 with (first | (refine zae rfl 35 (.tmp 11) rfl (g3) 0 rfl 35 ([.bool T.on, .int .u8 T.code, .int .u8 T.vol, .int .u32 T.start, .int .i64 T.len, .int .i64 T.ends]) BT.out 6 _ Tryz.underlying35 zcd (show 0 + 6 ≤ 6 by decide) (#[.bool T.on, .int .u8 T.code, .int .u8 T.vol, .int .u32 T.start, .int .i64 T.len, .int .i64 T.ends]) (by rfl) rfl ?_) | (refine zaf rfl 35 (.tmp 95) (.tmp 94) rfl (w.heap.size) 8 rfl 48 (PL p A n c) S.m.box ([.bool T.on, .int .u8 T.code, .int .u8 T.vol, .int .u32 T.start, .int .i64 T.len, .int .i64 T.ends]) rfl zcd (show 8 + 6 ≤ 48 by decide) rfl (PL { p with tn := T } A n c) rfl ?_; intro WG BG OG) | fail)
  replace S := S.over OG BG rfl
  replace BO := H9 (OG.blk BO.out (by omega))
  clear BG OG BT
  go_upto_region 20 with fail
  have hlo := S.u.size
  have hgl6 := S.bl.lt
  go_wp2_with (first | (refine zae rfl 108 (.tmp 98) rfl (g3 + 1) 2 rfl 143 ([.int .u32 ot, .bool om, .int .u8 oc, .bool of_, .int .u8 ov, .int .u16 od]) BO.out 4 _ Tryz.underlying108 zqw (show 2 + 4 ≤ 6 by decide) (#[.int .u8 oc, .bool of_, .int .u8 ov, .int .u16 od]) (by rfl) rfl ?_) | fail)
  refine (k2.out _).mono ?_
  rintro e w6 ⟨A8, rfl, hI8, hb1⟩
  replace S := S.later hb1
  replace BO := H9 (BO.out.later hb1)
  have hbo := BO.out.lt
  have HN8 := H9 hI8.2
  have hs6 := hb1.size
  have HP9 : Hid (IntsAv w6 [gl, w.heap.size + 1, w.heap.size] .u8 A8 bs) := H9 (IntsAv.of_new hI8 (by have h1 := hglg; intro x hx; simp at hx; omega))
  clear hb1
  have o0 := BO.out.at 0 _ rfl
  have o1 := BO.out.at 1 _ rfl
  go_upto_region 23 with fail
  go_wp2_with fail
  refine (k6.out A8 _ S.m S.bl).mono ?_
  rintro e w8 ⟨rfl, A9, c9, M9, L9, O9, C9⟩
  rw [← HQ9.out] at M9
  rw [← HK9.out] at O9
  replace S := S.emit M9 L9 C9
  replace HP9 := H9 (HP9.out.chg C9 (by simp))
  have K9 : Hid (PkS w8 w.heap.size [gl, w.heap.size + 1, w.heap.size] A9 [⟨k9, A8, 4⟩]) := H9 (PkS.one O9 HP9.out H9P.out (by intro x hx; simp at hx; omega) (by omega) (fun h0 b off e => by have := HN8.out h0 b off e; omega))
  clear M9 L9 O9 C9 o0 o1 hI8 HP9 BO
  go_upto_region 25 with (first | (refine zaf rfl 33 (.tmp 115) (.tmp 114) rfl (w.heap.size) 5 rfl 48 (PL q9 A n c) S.m.box ([.int .i64 0]) rfl zck (show 5 + 1 ≤ 48 by decide) rfl (PL { q9 with below := 0 } A n c) rfl ?_; intro WJ BJ OJ) | fail)
  replace S := S.over OJ BJ rfl
  replace K9 := H9 (K9.out.chg (Chg.of_only OJ (S := [w.heap.size]) (by simp)) (by simp))
  clear BJ OJ
  have x4 := S.cell 4 _ rfl
  have z4 := Blk.frozen S.m.box 4
  go_upto_region 31 with fail
  obtain ⟨WH, hV⟩ : ∃ V, V = WJ.setCell ⟨w.heap.size, 4, none⟩ (.bool true) := ⟨_, rfl⟩
  rw [← hV]
  have OV : OnlyB w.heap.size WJ WH := by rw [hV]; exact OnlyB.setCell _ _ _ _
  replace S : SS w WH gl { q9 with below := 0, mrk := true } A n c l A9 1 c9 := by rw [hV]; exact S.set 4 _ rfl rfl
  replace K9 := H9 (K9.out.chg (Chg.of_only OV (S := [w.heap.size]) (by simp)) (by simp))
  clear hV OV x4 z4
  refine zbp (by assumption) ?_
  have ht := C.wf.time
  rw [← H9T.out] at ht ⊢
  exact zku (ks := [⟨k9, A8, 4⟩]) S K9.out ht.1 ht.2 _ FrT.mk
end Go.Proofs.YtahbecinkciahaaGreat
namespace Go.Proofs.YtahbecinkciahaaGreat
open Go.RowKit
theorem zsx {w : World} {p : Sb.Pt} {A : Option Addr} {l : List TW} {n c : Nat} {ZA : Option Addr} {zs : List Int} {zc : Nat} {X : Array Value} (C : SC w p A l n c ZA zs zc) (hX : X = PA p A n c) : Calls Tryz.prog 23 #[.agg X, .slice ZA 160 zc] w (SendR (Sb.send0 p zs) w) := by
 by_cases hto : p.tn.on = true ∨ p.tn.ends ≠ 0
 · refine zkt C hX fun W a gl gq A2 c2 l2 S BQ hgq ha => ?_
   unfold Sb.send0 Sb.later
   rw [if_pos hto]
   exact zsw C S BQ hgq hto a ha
 · refine zkv C hX ?_ ?_
   · cases h : p.tn.on
     · rfl
     · exact absurd (Or.inl h) hto
   · rcases Classical.em (p.tn.ends = 0) with h | h
     · exact h
     · exact absurd (Or.inr h) hto
end Go.Proofs.YtahbecinkciahaaGreat
namespace Go.Proofs.YtahbecinkciahaaGreat
attribute [local go_sem ↓] zab zac
attribute [local go_sem] zaa zad
open Go.RowKit
structure EK (W : World) (S : List Nat) (ZA : Option Addr) (zs : List Int) (KA : Option Addr) (a : TK) : Prop where
 z : IntsAv W S .i16 ZA zs
 r : RowsAv W S 11 TK.row KA [a]
 pl : IntsAv W S .u8 a.B a.k.pl
theorem EK.chg {W W' : World} {S T : List Nat} {ZA : Option Addr} {zs : List Int} {KA : Option Addr} {a : TK} (h : EK W S ZA zs KA a) (hc : Chg T W W') (hs : ∀ x ∈ T, x ∈ S) : EK W' S ZA zs KA a := ⟨h.z.chg hc hs, h.r.chg hc hs, h.pl.chg hc hs⟩
theorem EK.later {W W' : World} {S : List Nat} {ZA : Option Addr} {zs : List Int} {KA : Option Addr} {a : TK} (h : EK W S ZA zs KA a) (hb : Below W.heap.size W W') : EK W' S ZA zs KA a := h.chg (T := []) (Chg.of_below hb) (by simp)
theorem EK.re {W : World} {S T : List Nat} {ZA : Option Addr} {zs : List Int} {KA : Option Addr} {a : TK} (h : EK W S ZA zs KA a) (hs : ∀ x ∈ T, x ∈ S ∨ W.heap.size ≤ x) : EK W T ZA zs KA a := ⟨h.z.re hs, h.r.re hs, h.pl.re hs⟩
noncomputable def enC_code : Code := (((findB 1 (Tryz.f6.body.getD .skip)).bind (fromReg 29)).getD .skip)
theorem zug {w W : World} {g5 ga gu gc M : Nat} {k ls mo trip : Int} {p u : Sb.Pt} {A1 : Option Addr} {c1 : Nat} {A2 : Option Addr} {n2 c2 : Nat} {l2 : List TW} {cv ci : Int} {WA : Option Addr} {wc : Nat} {wl : List TS} {GA : Option Addr} {gk : Nat} {gl : List TY} {i sq : Nat} {hi : Int} {f pr : Nat} {bL oL nL cL : Nat} {Q : Exit → Act → World → Prop} (X : EV w W g5 ga gu gc M ls mo p u A1 c1 A2 n2 c2 l2 cv ci WA wc wl GA gk gl) (E : Sb.EP k ls mo trip p u (i) (sq) (hi) f (pr) cv ci (wl.map TS.s) (gl.map TY.s)) (hiL : i < nL) (i40 : i < 40) (t0 : 0 ≤ trip) (t1 : trip ≤ 65535) (hLb : bL < w.heap.size) (loud : Int) (y0 : 0 ≤ loud) (y1 : loud ≤ 65535) (z0 : w.cell? ⟨bL, oL + i * 5, none⟩ = some (.int .u16 loud))
 (hcont : ∀ (W : World) (a : Act) (p : Sb.Pt) (A1 : Option Addr) (c1 : Nat), EV w W g5 ga gu gc M ls mo p u A1 c1 A2 n2 c2 l2 cv ci WA wc wl GA gk gl → Sb.EP k ls mo trip p u (i + 1) (sq) (hi) 0 (pr) cv ci (wl.map TS.s) (gl.map TY.s) → Fr 325 (EF k ls trip (some ⟨bL, oL, none⟩) nL cL g5 ga gu gc WA wl.length wc GA gl.length gk (pr : Int) (i : Int)) a → Q (.exit 1) a W)
 (h : ∀ (W : World) (a : Act) (q : Sb.Pt) (A1 : Option Addr) (c1 : Nat) (zs : List Int) (ZA : Option Addr) (zc : Nat) (KA : Option Addr) (kc : Nat) (t : TK), EV w W g5 ga gu gc M ls mo q u A1 c1 A2 n2 c2 l2 cv ci WA wc wl GA gk gl → Sb.SpkE k q (i + 1) (sq + 1) → Sb.SentK k p zs i sq q [t.k] → zs.length = 160 → Within (-32768) 32767 zs → EK W (ES [ga, gu, gc] WA GA) ZA zs KA t → Fr 325 ((24, .slice ZA 160 zc) :: (26, .slice KA 1 kc) :: (28, .int .i64 (20 * (i : Int) + trip)) :: EF k ls trip (some ⟨bL, oL, none⟩) nL cL g5 ga gu gc WA wl.length wc GA gl.length gk (pr : Int) (i : Int)) a → firstWp Tryz.prog enC_code Q a W) (a : Act) (ha : Fr 325 (EF k ls trip (some ⟨bL, oL, none⟩) nL cL g5 ga gu gc WA wl.length wc GA gl.length gk (pr : Int) (i : Int)) a) : firstWp Tryz.prog enB_code Q a W := by
 obtain ⟨s, rfl, hs⟩ := ha
 rw [r325]
 obtain ⟨e2, e3, e5, e9, e10, e12, e13, e14, e15, e16, e17, e18, e19, _⟩ := hs
 rw [e2, e3, e10, e19]
 have x0 := (X.be.cell (p := ⟨bL, oL + i * 5, none⟩) hLb).trans z0
 have hi0 : (0 : Int) ≤ (i : Int) := by omega
 have hi1 : (i : Int) < (nL : Int) := by omega
 have hES := X.m.lt
 have hwt : IntKind.i64.wrap trip = trip := by simp only [IntKind.wrap, IntKind.bits, IntKind.signed]; simp; omega
 clear z0
 refine zct ?_
 intro _ _
 go_wp2_with fail
 refine (zpq loud (i : Int) y0 y1 (by omega) (by omega) _).mono ?_
 rintro e w2 ⟨zs, ZA, zc, hzl, hzw, rfl, hI, hb1⟩
 have hZ : IntsAv w2 (ES [ga, gu, gc] WA GA) .i16 ZA zs := IntsAv.of_new hI hES
 replace X := X.later hb1
 clear hb1 x0 hI
 replace hES := X.m.lt
 have HZ := H9 hZ
 have HZL := H9 hzl
 have HZW := H9 hzw
 obtain ⟨hs1, hs2, hs3⟩ := E.sp.step zs i40 hzl hzw
 obtain ⟨q, hq⟩ : ∃ q, q = (Sb.send0 p zs).1 := ⟨_, rfl⟩
 obtain ⟨ps, hps⟩ : ∃ ps, ps = (Sb.send0 p zs).2 := ⟨_, rfl⟩
 rw [← hps] at hs1 hs2 hs3
 rw [← hq] at hs2 hs3
 have HS2 := H9 hs2
 have HS3 := H9 hs3
 have kS := H9 fun (V : World) hV => zsx (w := V) (p := p) (A := A1) (l := []) (n := 0) (c := c1) (ZA := ZA) (zs := zs) (zc := zc) (X := PA p A1 0 c1) ⟨E.sp.wf, E.sp.jq.symm, rfl, by omega, by omega, X.k1, ⟨fun h0 => absurd h0 (by simp), fun _ h => by cases h⟩, (fun _ h => by cases h), (fun _ h => by cases h), hV, hzw, hzl, E.sp.valid⟩ rfl
 unfold SendR at kS
 rw [← hq, ← hps] at kS
 have hqj := H9 hs2.jq
 clear hq hps hzl hzw hZ hs2 hs3
 go_upto_region 23 with fail
 go_wp2_with (first | (refine zae rfl 48 (.tmp 10) rfl (ga) 0 rfl 48 (PL p A1 0 c1) X.ba 48 _ Tryz.underlying48 zag (show 0 + 48 ≤ 48 by decide) (PA p A1 0 c1) (by rfl) rfl ?_) | fail)
 refine (kS.out _ HZ.out.1).mono ?_
 rintro e w3 ⟨A', n', c', l', KA, kc, ks, rfl, hk, hq1, hn, hc1, hc2, hW, hP, hb2, hN⟩
 obtain rfl : l' = [] := List.map_eq_nil_iff.1 (hq1.trans hqj.out)
 obtain rfl : 0 = n' := hn
 replace X := X.later hb2
 replace HZ := H9 (HZ.out.chg (T := []) (Chg.of_below hb2) (by simp))
 have hga2 := Blk.lt X.ba
 have HP := H9 hP
 have HN := H9 hN
 have HK := H9 hk
 have hkl : ks.length ≤ 1 := by have h9 := congrArg List.length hk; simp at h9; omega
 clear hb2 hW hq1 hc1 kS hP hN hk
 have hb9 := (Below.refl w3.heap.size w3).alloc (Nat.le_refl _) (Obj.cells (PA Sb.Pt.zero none 0 0) 48)
 have BZ : Blk (w3.alloc (Obj.cells (PA Sb.Pt.zero none 0 0) 48)) w3.heap.size 48 (PL Sb.Pt.zero none 0 0).toArray := Blk.new _ _ _
 have hkl2 : ¬(1 : Int) < (ks.length : Int) := by omega
 go_upto_region 24 with (first | (refine zaf rfl 48 (.tmp 25) (.tmp 117) rfl (w3.heap.size) 0 rfl 48 (PL Sb.Pt.zero none 0 0) BZ (PL q A' 0 c') rfl zag (show 0 + 48 ≤ 48 by decide) rfl (PL q A' 0 c') rfl ?_; intro WB HB3 OB) | fail)
 have hb8 := OB.below hb9 (by simp) (Nat.le_refl _)
 replace X := X.later hb8
 replace HZ := H9 (HZ.out.chg (T := []) (Chg.of_below hb8) (by simp))
 have HPK := H9 (show Pks WB w3.heap.size KA ks from ⟨HP.out.1.keep fun p hp => hb8.cell hp, fun a ha => (HP.out.2 a ha).keep fun p hp => hb8.cell hp⟩)
 have hs8 := hb8.size
 obtain ⟨g3, hg3⟩ : ∃ g, g = w3.heap.size := ⟨_, rfl⟩
 rw [← hg3] at HB3 hga2 HPK hs8 ⊢
 clear hg3 OB BZ hb8 hb9 HP
 have hg3a : g3 ≠ ga := by omega
 by_cases hk0 : ks = []
 · subst hk0
   have HS4 : Hid (Sb.SpkE k q (i + 1) sq ∧ Sb.SentK k p zs i sq q []) := by
    have h1 : ps = [] := HK.out.symm
    have h2 := HS2.out
    have h3 := HS3.out
    rw [h1] at h2 h3
    exact H9 ⟨h2, h3⟩
   go_upto_region 26 with fail
   go_upto_region 27 with (first | (refine zae rfl 48 (.tmp 25) rfl (g3) 0 rfl 48 (PL q A' 0 c') HB3 48 _ Tryz.underlying48 zag (show 0 + 48 ≤ 48 by decide) (PA q A' 0 c') (by rfl) rfl ?_) | (refine zaf rfl 48 (.tmp 10) (.tmp 127) rfl (ga) 0 rfl 48 (PL p A1 0 c1) X.ba (PL q A' 0 c') rfl zag (show 0 + 48 ≤ 48 by decide) rfl (PL q A' 0 c') rfl ?_; intro WF BF OF) | fail)
   replace X := X.boxA OF BF hc2
   clear BF OF HB3 HPK HN HS2 HS3 HK
   go_wp2_with fail
   have E2 := by
    cases HS4.out.2 with
    | none h0 h1 h2 => exact E.pass q HS4.out.1 h0 h1 h2
   exact hcont _ _ _ _ _ X E2 (Fr.mk rfl ⟨rfl, rfl, rfl, rfl, rfl, rfl, rfl, rfl, rfl, rfl, rfl, rfl, rfl, trivial⟩)
 obtain ⟨t, rfl⟩ : ∃ t, ks = [t] := List.length_eq_one_iff.1 (by have : 0 < ks.length := List.length_pos_iff.2 hk0; omega)
 have HS4 : Hid (Sb.SpkE k q (i + 1) (sq + 1) ∧ Sb.SentK k p zs i sq q [t.k]) := by
  have h1 : ps = [t.k] := HK.out.symm
  have h2 := HS2.out
  have h3 := HS3.out
  rw [h1] at h2 h3
  exact H9 ⟨h2, h3⟩
 have HEK := H9 (show EK WB (ES [ga, gu, gc] WA GA) ZA zs KA t from ⟨HZ.out, ⟨HPK.out.1.more hs8, fun h0 b off e hb => by have h1 := HN.out.1 h0 b off e; have h2 := hES b hb; omega⟩, ⟨(HPK.out.2 t (by simp)).more hs8, fun h0 b off e hb => by have h1 := HN.out.2 t (by simp) h0 b off e; have h2 := hES b hb; omega⟩⟩)
 clear hk0 HS2 HS3 HK HPK HN HZ
 go_upto_region 26 with fail
 go_upto_region 27 with (first | (refine zae rfl 48 (.tmp 25) rfl (g3) 0 rfl 48 (PL q A' 0 c') HB3 48 _ Tryz.underlying48 zag (show 0 + 48 ≤ 48 by decide) (PA q A' 0 c') (by rfl) rfl ?_) | (refine zaf rfl 48 (.tmp 10) (.tmp 127) rfl (ga) 0 rfl 48 (PL p A1 0 c1) X.ba (PL q A' 0 c') rfl zag (show 0 + 48 ≤ 48 by decide) rfl (PL q A' 0 c') rfl ?_; intro WF BF OF) | fail)
 replace X := X.boxA OF BF hc2
 replace HEK := H9 (HEK.out.chg (Chg.of_only OF (S := [ga]) (by simp)) (by intro x hx; simp at hx; rw [hx]; exact zbs.2 (.inl (by simp))))
 clear BF OF HB3
 have hl1 : ¬[t].length = 0 := by simp
 go_upto_region 29 with fail
 refine zcw (by assumption) (by assumption) ?_
 refine h _ _ q _ _ zs ZA zc KA kc t X HS4.out.1 HS4.out.2 HZL.out HZW.out HEK.out ?_
 exact Fr.mk rfl ⟨rfl, rfl, rfl, rfl, rfl, rfl, rfl, rfl, rfl, rfl, rfl, rfl, rfl, rfl, rfl, rfl, trivial⟩
end Go.Proofs.YtahbecinkciahaaGreat
namespace Go.Proofs.YtahbecinkciahaaGreat
open Go.RowKit
theorem zqx (n : Int) (A : Option Addr) (len cap : Nat) (w : World) (h1 : (n != 1) = true) (h2 : (n != 2) = true) :
 Calls Tryz.prog 87 #[.int .u8 n, .slice A len cap] w fun e w' => e = .returned (.tuple #[.slice none 0 0, .int .u8 2]) ∧ w = w' := by
 go_enter Tryz.func87, Tryz.ntmps87
 go_wp2
 go_ret2
 exact ⟨rfl, rfl⟩
theorem zfo (n : Int) (A : Option Addr) (len cap : Nat) (w : World) (hn : n = 1 ∨ n = 2) (h : 8000 < (len : Int)) :
 Calls Tryz.prog 87 #[.int .u8 n, .slice A len cap] w fun e w' => e = .returned (.tuple #[.slice none 0 0, .int .u8 4]) ∧ w = w' := by
 rcases hn with rfl | rfl
 all_goals
  go_enter Tryz.func87, Tryz.ntmps87
  go_wp2
  go_ret2
  exact ⟨rfl, rfl⟩
theorem zmx (n : Int) (A : Option Addr) (len cap : Nat) (w : World) (h1 : (n != 1) = true) (h2 : (n != 2) = true) :
 Calls Tryz.prog 90 #[.int .u8 n, .slice A len cap] w fun e w' => e = .returned (.tuple #[.slice none 0 0, .int .u8 2]) ∧ w = w' := by
 go_enter Tryz.func90, Tryz.ntmps90
 go_wp2
 go_ret2
 exact ⟨rfl, rfl⟩
theorem zej (n : Int) (A : Option Addr) (len cap : Nat) (w : World) (hn : n = 1 ∨ n = 2) (h : 8000 < (len : Int)) :
 Calls Tryz.prog 90 #[.int .u8 n, .slice A len cap] w fun e w' => e = .returned (.tuple #[.slice none 0 0, .int .u8 4]) ∧ w = w' := by
 rcases hn with rfl | rfl
 all_goals
  go_enter Tryz.func90, Tryz.ntmps90
  go_wp2
  go_ret2
  exact ⟨rfl, rfl⟩
theorem zcf (f : Int → Int) (zs : List Int) (k : Nat) (h : k < zs.length) : (zs.take (k + 1)).map f = (zs.take k).map f ++ [f (zs.getD k 0)] := by
 rw [List.take_succ_eq_append_getElem h, List.map_append, List.getD_eq_getElem?_getD, List.getElem?_eq_getElem h]
 rfl
theorem zqy (A : Option Addr) (zs : List Int) (cap : Nat) (w : World) (hA : IntsAt w w.heap.size .i16 A zs) (hz : Within (-32768) 32767 zs) (h8 : zs.length ≤ 8000) :
 Calls Tryz.prog 87 #[.int .u8 1, .slice A zs.length cap] w fun e w' => ∃ (A' : Option Addr) (c' : Nat), e = .returned (.tuple #[.slice A' zs.length c', .int .u8 0]) ∧
  IntsAt w' w'.heap.size .u8 A' (zs.map Cmp.muZ) ∧ Below w.heap.size w w' := by
 go_enter Tryz.func87, Tryz.ntmps87
 go_wp2
 go_loopw [6, 7] (fun v i wr => ∃ (k : Nat) (A' : Option Addr) (c' : Nat) (xs : List Value), k ≤ zs.length ∧ i = .int .i64 k ∧ v = .slice A' k c' ∧ Owns wr w.heap.size 5 1 A' k c' xs ∧ Hid (xs = ((zs.take k).map Cmp.muZ).map (Value.int .u8)) ∧ Below w.heap.size w wr)
  (fun _ i _ => zs.length - (intOf i).toNat)
 case atStart => exact ⟨0, none, 0, [], Nat.zero_le _, rfl, rfl, Owns.nil, rfl, Below.refl _ _⟩
 case round =>
  obtain ⟨k, A', c', xs, hk, rfl, rfl, qo, HX, hb⟩ := hrel
  by_cases hlt : k < zs.length
  · obtain ⟨b, off, rfl, hbB, qc⟩ := hA (by omega)
    have hzk := hz.at hlt
    have hck : wr.cell? ⟨b, off + k, none⟩ = some (.int .i16 (zs.getD k 0)) := (hb.cell (p := ⟨b, off + k, none⟩) hbB).trans (qc k hlt)
    have hbs := hb.size
    clear qc
    generalize hzz : zs.getD k 0 = z at hck hzk
    have HZ := H9 hzz
    clear hzz
    obtain ⟨hz1', hz2'⟩ := hzk
    have hi0 : (0 : Int) ≤ (k : Int) := by omega
    have hi1 : (k : Int) < (zs.length : Int) := by omega
    have HO := H9 qo
    clear qo
    go_wp2_with (first
     | (go_at_call 132; refine (zrt _ _ (by omega) (by omega)).mono ?_; rintro e w' ⟨rfl, rfl⟩)
     | (at_builtin; refine zaj rfl _ _ 22 rfl w.heap.size 5 1 1 (.int .u8 0) Tryz.underlying22 zkr rfl (by decide) A' k c' xs rfl HO.out [.int .u8 (Cmp.muZ z)] rfl (by simp [Value.oneCell']) rfl (by unfold maxLen; omega) (by omega) (by omega) ?_; intro A2 c2 w2 hown2 hg2 hlt2))
    go_roundw
    case rel =>
     refine ⟨k + 1, A2, c2, _, by omega, by go_num, rfl, hown2, ?_, zbj hb HO.out hg2 (by omega) (Nat.le_refl _)⟩
     rw [HX.out, zcf _ _ _ hlt, HZ.out, List.map_append]
     rfl
    case measure => simp [intOf]; omega
  · obtain rfl : k = zs.length := by omega
    go_wp2
    go_ret2
    refine ⟨A', c', rfl, ?_, hb⟩
    rw [HX.out, List.take_length] at qo
    exact qo.ints
theorem zpb (x : Int) (w : World) (h0 : 0 ≤ x) (h1 : x ≤ 255) :
 Calls Tryz.prog 134 #[.int .u8 x] w fun e w' => e = .returned (.int .i16 (Cmp.fromMuZ x)) ∧ w = w' := by
 obtain ⟨n, rfl⟩ := Int.eq_ofNat_of_zero_le h0
 exact zix n w (by omega)
theorem zsy (A : Option Addr) (zs : List Int) (cap : Nat) (w : World) (hA : IntsAt w w.heap.size .i16 A zs) (hz : Within (-32768) 32767 zs) (h8 : zs.length ≤ 8000) :
 Calls Tryz.prog 87 #[.int .u8 2, .slice A zs.length cap] w fun e w' => ∃ (A' : Option Addr) (c' : Nat), e = .returned (.tuple #[.slice A' zs.length c', .int .u8 0]) ∧
  IntsAt w' w'.heap.size .u8 A' (zs.map Cmp.aZ) ∧ Below w.heap.size w w' := by
 go_enter Tryz.func87, Tryz.ntmps87
 go_wp2
 go_loopw [6, 7] (fun v i wr => ∃ (k : Nat) (A' : Option Addr) (c' : Nat) (xs : List Value), k ≤ zs.length ∧ i = .int .i64 k ∧ v = .slice A' k c' ∧ Owns wr w.heap.size 5 1 A' k c' xs ∧ Hid (xs = ((zs.take k).map Cmp.aZ).map (Value.int .u8)) ∧ Below w.heap.size w wr)
  (fun _ i _ => zs.length - (intOf i).toNat)
 case atStart => exact ⟨0, none, 0, [], Nat.zero_le _, rfl, rfl, Owns.nil, rfl, Below.refl _ _⟩
 case round =>
  obtain ⟨k, A', c', xs, hk, rfl, rfl, qo, HX, hb⟩ := hrel
  by_cases hlt : k < zs.length
  · obtain ⟨b, off, rfl, hbB, qc⟩ := hA (by omega)
    have hzk := hz.at hlt
    have hck : wr.cell? ⟨b, off + k, none⟩ = some (.int .i16 (zs.getD k 0)) := (hb.cell (p := ⟨b, off + k, none⟩) hbB).trans (qc k hlt)
    have hbs := hb.size
    clear qc
    generalize hzz : zs.getD k 0 = z at hck hzk
    have HZ := H9 hzz
    clear hzz
    obtain ⟨hz1', hz2'⟩ := hzk
    have hi0 : (0 : Int) ≤ (k : Int) := by omega
    have hi1 : (k : Int) < (zs.length : Int) := by omega
    have HO := H9 qo
    clear qo
    go_wp2_with (first
     | (go_at_call 133; refine (zti _ _ (by omega) (by omega)).mono ?_; rintro e w' ⟨rfl, rfl⟩)
     | (at_builtin; refine zaj rfl _ _ 22 rfl w.heap.size 5 1 1 (.int .u8 0) Tryz.underlying22 zkr rfl (by decide) A' k c' xs rfl HO.out [.int .u8 (Cmp.aZ z)] rfl (by simp [Value.oneCell']) rfl (by unfold maxLen; omega) (by omega) (by omega) ?_; intro A2 c2 w2 hown2 hg2 hlt2))
    go_roundw
    case rel =>
     refine ⟨k + 1, A2, c2, _, by omega, by go_num, rfl, hown2, ?_, zbj hb HO.out hg2 (by omega) (Nat.le_refl _)⟩
     rw [HX.out, zcf _ _ _ hlt, HZ.out, List.map_append]
     rfl
    case measure => simp [intOf]; omega
  · obtain rfl : k = zs.length := by omega
    go_wp2
    go_ret2
    refine ⟨A', c', rfl, ?_, hb⟩
    rw [HX.out, List.take_length] at qo
    exact qo.ints
theorem zqz (x : Int) (w : World) (h0 : 0 ≤ x) (h1 : x ≤ 255) :
 Calls Tryz.prog 135 #[.int .u8 x] w fun e w' => e = .returned (.int .i16 (Cmp.fromAZ x)) ∧ w = w' := by
 obtain ⟨n, rfl⟩ := Int.eq_ofNat_of_zero_le h0
 exact zlf n w (by omega)
def expMu (x : Int) : Int := ((Cmp.expo (Cmp.magMu x) : Nat) : Int)
def expA (x : Int) : Int := ((Cmp.expo (Cmp.magA x) : Nat) : Int)
def packOut (n : Int) (zs : List Int) : List Int := if n = 1 ∧ zs.length ≤ 8000 then zs.map Cmp.muZ else if n = 2 ∧ zs.length ≤ 8000 then zs.map Cmp.aZ else []
def unpackOut (n : Int) (zs : List Int) : List Int := if n = 1 ∧ zs.length ≤ 8000 then zs.map Cmp.fromMuZ else if n = 2 ∧ zs.length ≤ 8000 then zs.map Cmp.fromAZ else []
def packErr (n : Int) (len : Nat) : Int := if n ≠ 1 ∧ n ≠ 2 then 2 else if 8000 < len then 4 else 0
theorem zit (n : Int) (h1 : n ≠ 1) (h2 : n ≠ 2) : (n == 1) = false ∧ (n == 2) = false ∧ (n != 1) = true ∧ (n != 2) = true := by simp [h1, h2]
theorem ziu (n : Int) (A : Option Addr) (zs : List Int) (cap : Nat) (w : World) (hA : IntsAt w w.heap.size .i16 A zs) (hz : Within (-32768) 32767 zs) :
 Calls Tryz.prog 87 #[.int .u8 n, .slice A zs.length cap] w fun e w' => ∃ (A' : Option Addr) (c' : Nat), e = .returned (.tuple #[.slice A' (packOut n zs).length c', .int .u8 (packErr n zs.length)]) ∧
  IntsAt w' w'.heap.size .u8 A' (packOut n zs) ∧ Below w.heap.size w w' := by
 by_cases h1 : n = 1
 · subst h1
   by_cases h8 : zs.length ≤ 8000
   · refine (zqy A zs cap w hA hz h8).mono ?_
     rintro e w' ⟨A', c', rfl, h, hb⟩
     have e1 : packOut 1 zs = zs.map Cmp.muZ := by unfold packOut; rw [if_pos ⟨rfl, h8⟩]
     have e2 : packErr 1 zs.length = 0 := by unfold packErr; rw [if_neg (by simp), if_neg (by omega)]
     rw [e1, e2, List.length_map]
     exact ⟨A', c', rfl, h, hb⟩
   · refine (zfo 1 A zs.length cap w (.inl rfl) (by omega)).mono ?_
     rintro e w' ⟨rfl, rfl⟩
     have e1 : packOut 1 zs = [] := by unfold packOut; rw [if_neg (by omega), if_neg (by omega)]
     have e2 : packErr 1 zs.length = 4 := by unfold packErr; rw [if_neg (by simp), if_pos (by omega)]
     rw [e1, e2]
     exact ⟨none, 0, rfl, IntsAt.nil, Below.refl _ _⟩
 · by_cases h2 : n = 2
   · subst h2
     by_cases h8 : zs.length ≤ 8000
     · refine (zsy A zs cap w hA hz h8).mono ?_
       rintro e w' ⟨A', c', rfl, h, hb⟩
       have e1 : packOut 2 zs = zs.map Cmp.aZ := by unfold packOut; rw [if_neg (by omega), if_pos ⟨rfl, h8⟩]
       have e2 : packErr 2 zs.length = 0 := by unfold packErr; rw [if_neg (by simp), if_neg (by omega)]
       rw [e1, e2, List.length_map]
       exact ⟨A', c', rfl, h, hb⟩
     · refine (zfo 2 A zs.length cap w (.inr rfl) (by omega)).mono ?_
       rintro e w' ⟨rfl, rfl⟩
       have e1 : packOut 2 zs = [] := by unfold packOut; rw [if_neg (by omega), if_neg (by omega)]
       have e2 : packErr 2 zs.length = 4 := by unfold packErr; rw [if_neg (by simp), if_pos (by omega)]
       rw [e1, e2]
       exact ⟨none, 0, rfl, IntsAt.nil, Below.refl _ _⟩
   · obtain ⟨hn1, hn2, hn3, hn4⟩ := zit n h1 h2
     refine (zqx n A zs.length cap w hn3 hn4).mono ?_
     rintro e w' ⟨rfl, rfl⟩
     have e1 : packOut n zs = [] := by unfold packOut; rw [if_neg (by omega), if_neg (by omega)]
     have e2 : packErr n zs.length = 2 := by unfold packErr; rw [if_pos ⟨h1, h2⟩]
     rw [e1, e2]
     exact ⟨none, 0, rfl, IntsAt.nil, Below.refl _ _⟩
end Go.Proofs.YtahbecinkciahaaGreat
namespace Go.Proofs.YtahbecinkciahaaGreat.Sb
open Go.RowKit
def decE (c : Int) (bs : List Int) (n : Int) : List Int × Int :=
 if c = 0 then (bs.map Cmp.fromMuZ, 0) else if c = 8 then (bs.map Cmp.fromAZ, 0) else ((Dlt.unpR bs n).1, (Dlt.unpR bs n).2.2.2)
def encE (c v i : Int) (zs : List Int) : List Int × (Int × Int) × Int :=
 if c = 0 then (zs.map Cmp.muZ, (v, i), 0) else if c = 8 then (zs.map Cmp.aZ, (v, i), 0) else ((Dlt.packR v i zs).1, ((Dlt.packR v i zs).2.1, (Dlt.packR v i zs).2.2.1), (Dlt.packR v i zs).2.2.2)
def tran (a b : Int) (bs : List Int) (v i : Int) : List Int × (Int × Int) × Int :=
 if speechB a = false ∨ speechB b = false then ([], (0, 0), 15) else if a = 96 ∧ bs.length < 4 then ([], (0, 0), 6) else
  if (decE a bs (2 * ((bs.length : Int) - 4))).2 ≠ 0 then ([], (0, 0), (decE a bs (2 * ((bs.length : Int) - 4))).2) else
   if (encE b v i (decE a bs (2 * ((bs.length : Int) - 4))).1).2.2 ≠ 0 then ([], (0, 0), (encE b v i (decE a bs (2 * ((bs.length : Int) - 4))).1).2.2) else encE b v i (decE a bs (2 * ((bs.length : Int) - 4))).1
def muB (z : Int) : Int := Cmp.muZ (Cmp.fromMuZ z)
end Go.Proofs.YtahbecinkciahaaGreat.Sb
namespace Go.Proofs.YtahbecinkciahaaGreat
attribute [local go_sem ↓] zab zac
attribute [local go_sem] zaa zad
open Go.RowKit
theorem zer (k : Int) (w : World) : Calls Tryz.prog 88 #[.int .u8 k] w fun e w' => e = .returned (.int .u8 (if k = 0 then 1 else 2)) ∧ Below w.heap.size w w' := by
 by_cases h0 : k = 0
 · subst h0
   go_enter Tryz.func88, Tryz.ntmps88
   go_wp2_with fail
   go_ret
   exact ⟨rfl, Below.refl _ _⟩
 rw [if_neg h0]
 go_enter Tryz.func88, Tryz.ntmps88
 go_wp2_with fail
 go_ret
 exact ⟨rfl, Below.refl _ _⟩
theorem IntsAt.set_ne2 {w : World} {B : Nat} {k : IntKind} {A : Option Addr} {zs : List Int} (h : IntsAt w B k A zs) {p : Addr} {v0 : Value} (hc : w.cell? p = some v0) (hk : ∀ z, v0 ≠ .int k z) (u : Value) : IntsAt (w.setCell p u) B k A zs := fun h0 => by
 obtain ⟨b, off, e, hlt, qc⟩ := h h0
 refine ⟨b, off, e, hlt, fun i hi => ?_⟩
 rw [World.cell?_setCell_other w p ⟨b, off + i, none⟩ u (fun e2 => ?_)]
 · exact qc i hi
 · have := qc i hi
   first
    | (rw [e2, hc] at this; injection this with this; exact hk _ this)
    | (rw [← e2, hc] at this; injection this with this; exact hk _ this)
def RDecR (d : List Int × Int) (w : World) (e : Ending) (w' : World) : Prop := ∃ (A' : Option Addr) (c' : Nat), e = .returned (.tuple #[.slice A' d.1.length c', .int .u8 d.2]) ∧ IntsAt w' w'.heap.size .i16 A' d.1 ∧ Below w.heap.size w w'
def REncR (d : List Int × (Int × Int) × Int) (w : World) (e : Ending) (w' : World) : Prop := ∃ (A' : Option Addr) (c' : Nat), e = .returned (.tuple #[.slice A' d.1.length c', .agg #[.int .i64 d.2.1.1, .int .i64 d.2.1.2], .int .u8 d.2.2]) ∧ IntsAt w' w'.heap.size .u8 A' d.1 ∧ Below w.heap.size w w'
theorem zuh (v i : Int) (A : Option Addr) (zs : List Int) (c : Nat) (w : World) (hA : IntsAt w w.heap.size .i16 A zs) (hz : Within (-32768) 32767 zs) (h8 : zs.length ≤ 8000) : Calls Tryz.prog 31 #[.int .u8 0, .slice A zs.length c, .agg #[.int .i64 v, .int .i64 i]] w (REncR (Sb.encE 0 v i zs) w) := by
 have e1 : Sb.encE 0 v i zs = (zs.map Cmp.muZ, (v, i), 0) := by unfold Sb.encE; rw [if_pos rfl]
 rw [e1]
 clear e1
 have kU := H9 fun (W : World) hW => ziu 1 A zs c W hW hz
 rw [show packOut 1 zs = zs.map Cmp.muZ by unfold packOut; rw [if_pos ⟨rfl, h8⟩], show packErr 1 zs.length = 0 by unfold packErr; rw [if_neg (by decide), if_neg (by omega)]] at kU
 obtain ⟨EL, hEL⟩ : ∃ Z, Z = zs.map Cmp.muZ := ⟨_, rfl⟩
 rw [← hEL] at kU ⊢
 clear hEL
 have HA := H9 hA
 clear hA hz
 have B0 := H9 ((Blk.new w 24 #[.int .i64 v, .int .i64 i]).push (.cells #[.int .i64 0, .int .i64 0] 24))
 have B1 := H9 (Blk.new1 w (.cells #[.int .i64 v, .int .i64 i] 24) 24 #[.int .i64 0, .int .i64 0])
 have U := H9 (((Bel.refl w).push (.cells #[.int .i64 v, .int .i64 i] 24)).push (.cells #[.int .i64 0, .int .i64 0] 24))
 replace HA := H9 ((HA.out.push (.cells #[.int .i64 v, .int .i64 i] 24)).push (.cells #[.int .i64 0, .int .i64 0] 24))
 go_enter Tryz.func31, Tryz.ntmps31
 go_upto_region 1 with fail
 change Code.wp _ _ _ _ ((w.alloc (Obj.cells #[.int .i64 v, .int .i64 i] 24)).alloc (Obj.cells #[.int .i64 0, .int .i64 0] 24))
 obtain ⟨W, hW⟩ : ∃ W, W = (w.alloc (Obj.cells #[.int .i64 v, .int .i64 i] 24)).alloc (Obj.cells #[.int .i64 0, .int .i64 0] 24) := ⟨_, rfl⟩
 rw [← hW] at HA B0 B1 U ⊢
 clear hW
 go_wp2_with fail
 refine (zer 0 _).mono ?_
 rintro e w1 ⟨rfl, hb⟩
 replace HA := H9 (HA.out.later hb)
 replace B0 := H9 (B0.out.later hb)
 replace B1 := H9 (B1.out.later hb)
 replace U := H9 (U.out.later hb)
 clear hb
 rw [if_pos rfl]
 go_wp2_with fail
 refine (kU.out _ HA.out).mono ?_
 rintro e w2 ⟨A2, c2, rfl, hI, hb⟩
 have HE := H9 hI
 replace B0 := H9 (B0.out.later hb)
 replace B1 := H9 (B1.out.later hb)
 replace U := H9 (U.out.later hb)
 clear hI hb kU HA
 have c0 := B0.out.at 0 _ rfl
 have c1 := B0.out.at 1 _ rfl
 have r0 := B1.out.at 0 _ rfl
 have r1 := B1.out.at 1 _ rfl
 have rz := B1.out.frozen
 go_upto_region 4 with fail
 go_region
 have RF := B1.out.set_ 0 (.int .i64 v)
 have RG := RF.set_ 1 (.int .i64 i)
 have q1 := RF.at 1 _ rfl
 have UF := zah (zah U.out (by simp) (.int .i64 v) (p := ⟨w.heap.size + 1, 0, none⟩)) (by simp) (.int .i64 i) (p := ⟨w.heap.size + 1, 1, none⟩)
 have RE := (HE.out.set_ne2 r0 (by intro z e; cases e) (.int .i64 v)).set_ne2 q1 (by intro z e; cases e) (.int .i64 i)
 go_wp2_with fail
 refine bodyPost_ret (v := .tuple #[.slice A2 EL.length c2, .agg #[.int .i64 v, .int .i64 i], .int .u8 0]) (zew Tryz.results31 rfl rfl (run_loadVar_row (P := Tryz.prog) _ _ _ _ _ _ _ RG.drew Tryz.underlying24 rfl (by kernel_rfl)) rfl) rfl ⟨A2, c2, rfl, ?_, UF.drew⟩
 exact RE.more (by simp [World.setCell])
theorem zui (v i : Int) (A : Option Addr) (zs : List Int) (c : Nat) (w : World) (hA : IntsAt w w.heap.size .i16 A zs) (hz : Within (-32768) 32767 zs) (h8 : zs.length ≤ 8000) : Calls Tryz.prog 31 #[.int .u8 8, .slice A zs.length c, .agg #[.int .i64 v, .int .i64 i]] w (REncR (Sb.encE 8 v i zs) w) := by
 have e1 : Sb.encE 8 v i zs = (zs.map Cmp.aZ, (v, i), 0) := by unfold Sb.encE; rw [if_neg (by decide), if_pos rfl]
 rw [e1]
 clear e1
 have kU := H9 fun (W : World) hW => ziu 2 A zs c W hW hz
 rw [show packOut 2 zs = zs.map Cmp.aZ by unfold packOut; rw [if_neg (fun h => absurd h.1 (by decide)), if_pos ⟨rfl, h8⟩], show packErr 2 zs.length = 0 by unfold packErr; rw [if_neg (by decide), if_neg (by omega)]] at kU
 obtain ⟨EL, hEL⟩ : ∃ Z, Z = zs.map Cmp.aZ := ⟨_, rfl⟩
 rw [← hEL] at kU ⊢
 clear hEL
 have HA := H9 hA
 clear hA hz
 have B0 := H9 ((Blk.new w 24 #[.int .i64 v, .int .i64 i]).push (.cells #[.int .i64 0, .int .i64 0] 24))
 have B1 := H9 (Blk.new1 w (.cells #[.int .i64 v, .int .i64 i] 24) 24 #[.int .i64 0, .int .i64 0])
 have U := H9 (((Bel.refl w).push (.cells #[.int .i64 v, .int .i64 i] 24)).push (.cells #[.int .i64 0, .int .i64 0] 24))
 replace HA := H9 ((HA.out.push (.cells #[.int .i64 v, .int .i64 i] 24)).push (.cells #[.int .i64 0, .int .i64 0] 24))
 go_enter Tryz.func31, Tryz.ntmps31
 go_upto_region 1 with fail
 change Code.wp _ _ _ _ ((w.alloc (Obj.cells #[.int .i64 v, .int .i64 i] 24)).alloc (Obj.cells #[.int .i64 0, .int .i64 0] 24))
 obtain ⟨W, hW⟩ : ∃ W, W = (w.alloc (Obj.cells #[.int .i64 v, .int .i64 i] 24)).alloc (Obj.cells #[.int .i64 0, .int .i64 0] 24) := ⟨_, rfl⟩
 rw [← hW] at HA B0 B1 U ⊢
 clear hW
 go_wp2_with fail
 refine (zer 8 _).mono ?_
 rintro e w1 ⟨rfl, hb⟩
 replace HA := H9 (HA.out.later hb)
 replace B0 := H9 (B0.out.later hb)
 replace B1 := H9 (B1.out.later hb)
 replace U := H9 (U.out.later hb)
 clear hb
 rw [if_neg (by decide)]
 go_wp2_with fail
 refine (kU.out _ HA.out).mono ?_
 rintro e w2 ⟨A2, c2, rfl, hI, hb⟩
 have HE := H9 hI
 replace B0 := H9 (B0.out.later hb)
 replace B1 := H9 (B1.out.later hb)
 replace U := H9 (U.out.later hb)
 clear hI hb kU HA
 have c0 := B0.out.at 0 _ rfl
 have c1 := B0.out.at 1 _ rfl
 have r0 := B1.out.at 0 _ rfl
 have r1 := B1.out.at 1 _ rfl
 have rz := B1.out.frozen
 go_upto_region 4 with fail
 go_region
 have RF := B1.out.set_ 0 (.int .i64 v)
 have RG := RF.set_ 1 (.int .i64 i)
 have q1 := RF.at 1 _ rfl
 have UF := zah (zah U.out (by simp) (.int .i64 v) (p := ⟨w.heap.size + 1, 0, none⟩)) (by simp) (.int .i64 i) (p := ⟨w.heap.size + 1, 1, none⟩)
 have RE := (HE.out.set_ne2 r0 (by intro z e; cases e) (.int .i64 v)).set_ne2 q1 (by intro z e; cases e) (.int .i64 i)
 go_wp2_with fail
 refine bodyPost_ret (v := .tuple #[.slice A2 EL.length c2, .agg #[.int .i64 v, .int .i64 i], .int .u8 0]) (zew Tryz.results31 rfl rfl (run_loadVar_row (P := Tryz.prog) _ _ _ _ _ _ _ RG.drew Tryz.underlying24 rfl (by kernel_rfl)) rfl) rfl ⟨A2, c2, rfl, ?_, UF.drew⟩
 exact RE.more (by simp [World.setCell])
theorem zkb (A : Option Addr) (zs : List Int) (cap : Nat) (w : World) (hA : IntsAt w w.heap.size .u8 A zs) (hz : Within (0) 255 zs) (h8 : zs.length ≤ 8000) :
 Calls Tryz.prog 90 #[.int .u8 1, .slice A zs.length cap] w fun e w' => ∃ (A' : Option Addr) (c' : Nat), e = .returned (.tuple #[.slice A' zs.length c', .int .u8 0]) ∧
  IntsNew w.heap.size w' .i16 A' (zs.map Cmp.fromMuZ) ∧ Below w.heap.size w w' := by
 go_enter Tryz.func90, Tryz.ntmps90
 go_wp2
 go_loopw [6, 7] (fun v i wr => ∃ (k : Nat) (A' : Option Addr) (c' : Nat) (xs : List Value), k ≤ zs.length ∧ i = .int .i64 k ∧ v = .slice A' k c' ∧ Owns wr w.heap.size 93 1 A' k c' xs ∧ Hid (xs = ((zs.take k).map Cmp.fromMuZ).map (Value.int .i16)) ∧ Below w.heap.size w wr)
  (fun _ i _ => zs.length - (intOf i).toNat)
 case atStart => exact ⟨0, none, 0, [], Nat.zero_le _, rfl, rfl, Owns.nil, rfl, Below.refl _ _⟩
 case round =>
  obtain ⟨k, A', c', xs, hk, rfl, rfl, qo, HX, hb⟩ := hrel
  by_cases hlt : k < zs.length
  · obtain ⟨b, off, rfl, hbB, qc⟩ := hA (by omega)
    have hzk := hz.at hlt
    have hck : wr.cell? ⟨b, off + k, none⟩ = some (.int .u8 (zs.getD k 0)) := (hb.cell (p := ⟨b, off + k, none⟩) hbB).trans (qc k hlt)
    have hbs := hb.size
    clear qc
    generalize hzz : zs.getD k 0 = z at hck hzk
    have HZ := H9 hzz
    clear hzz
    obtain ⟨hz1', hz2'⟩ := hzk
    have hi0 : (0 : Int) ≤ (k : Int) := by omega
    have hi1 : (k : Int) < (zs.length : Int) := by omega
    have HO := H9 qo
    clear qo
    go_wp2_with (first
     | (go_at_call 134; refine (zpb _ _ (by omega) (by omega)).mono ?_; rintro e w' ⟨rfl, rfl⟩)
     | (at_builtin; refine zaj rfl _ _ 66 rfl w.heap.size 93 1 2 (.int .i16 0) Tryz.underlying66 zha rfl (by decide) A' k c' xs rfl HO.out [.int .i16 (Cmp.fromMuZ z)] rfl (by simp [Value.oneCell']) rfl (by unfold maxLen; omega) (by omega) (by omega) ?_; intro A2 c2 w2 hown2 hg2 hlt2))
    go_roundw
    case rel =>
     refine ⟨k + 1, A2, c2, _, by omega, by go_num, rfl, hown2, ?_, zbj hb HO.out hg2 (by omega) (Nat.le_refl _)⟩
     rw [HX.out, zcf _ _ _ hlt, HZ.out, List.map_append]
     rfl
    case measure => simp [intOf]; omega
  · obtain rfl : k = zs.length := by omega
    go_wp2
    go_ret2
    refine ⟨A', c', rfl, ?_, hb⟩
    rw [HX.out, List.take_length] at qo
    exact ⟨qo.ints, fun _ b o e => (qo.block b (by rw [e]; rfl)).1⟩
theorem zmy (A : Option Addr) (zs : List Int) (cap : Nat) (w : World) (hA : IntsAt w w.heap.size .u8 A zs) (hz : Within (0) 255 zs) (h8 : zs.length ≤ 8000) :
 Calls Tryz.prog 90 #[.int .u8 2, .slice A zs.length cap] w fun e w' => ∃ (A' : Option Addr) (c' : Nat), e = .returned (.tuple #[.slice A' zs.length c', .int .u8 0]) ∧
  IntsNew w.heap.size w' .i16 A' (zs.map Cmp.fromAZ) ∧ Below w.heap.size w w' := by
 go_enter Tryz.func90, Tryz.ntmps90
 go_wp2
 go_loopw [6, 7] (fun v i wr => ∃ (k : Nat) (A' : Option Addr) (c' : Nat) (xs : List Value), k ≤ zs.length ∧ i = .int .i64 k ∧ v = .slice A' k c' ∧ Owns wr w.heap.size 93 1 A' k c' xs ∧ Hid (xs = ((zs.take k).map Cmp.fromAZ).map (Value.int .i16)) ∧ Below w.heap.size w wr)
  (fun _ i _ => zs.length - (intOf i).toNat)
 case atStart => exact ⟨0, none, 0, [], Nat.zero_le _, rfl, rfl, Owns.nil, rfl, Below.refl _ _⟩
 case round =>
  obtain ⟨k, A', c', xs, hk, rfl, rfl, qo, HX, hb⟩ := hrel
  by_cases hlt : k < zs.length
  · obtain ⟨b, off, rfl, hbB, qc⟩ := hA (by omega)
    have hzk := hz.at hlt
    have hck : wr.cell? ⟨b, off + k, none⟩ = some (.int .u8 (zs.getD k 0)) := (hb.cell (p := ⟨b, off + k, none⟩) hbB).trans (qc k hlt)
    have hbs := hb.size
    clear qc
    generalize hzz : zs.getD k 0 = z at hck hzk
    have HZ := H9 hzz
    clear hzz
    obtain ⟨hz1', hz2'⟩ := hzk
    have hi0 : (0 : Int) ≤ (k : Int) := by omega
    have hi1 : (k : Int) < (zs.length : Int) := by omega
    have HO := H9 qo
    clear qo
    go_wp2_with (first
     | (go_at_call 135; refine (zqz _ _ (by omega) (by omega)).mono ?_; rintro e w' ⟨rfl, rfl⟩)
     | (at_builtin; refine zaj rfl _ _ 66 rfl w.heap.size 93 1 2 (.int .i16 0) Tryz.underlying66 zha rfl (by decide) A' k c' xs rfl HO.out [.int .i16 (Cmp.fromAZ z)] rfl (by simp [Value.oneCell']) rfl (by unfold maxLen; omega) (by omega) (by omega) ?_; intro A2 c2 w2 hown2 hg2 hlt2))
    go_roundw
    case rel =>
     refine ⟨k + 1, A2, c2, _, by omega, by go_num, rfl, hown2, ?_, zbj hb HO.out hg2 (by omega) (Nat.le_refl _)⟩
     rw [HX.out, zcf _ _ _ hlt, HZ.out, List.map_append]
     rfl
    case measure => simp [intOf]; omega
  · obtain rfl : k = zs.length := by omega
    go_wp2
    go_ret2
    refine ⟨A', c', rfl, ?_, hb⟩
    rw [HX.out, List.take_length] at qo
    exact ⟨qo.ints, fun _ b o e => (qo.block b (by rw [e]; rfl)).1⟩
theorem zek (n : Int) (A : Option Addr) (zs : List Int) (cap : Nat) (w : World) (hA : IntsAt w w.heap.size .u8 A zs) (hz : Within (0) 255 zs) :
 Calls Tryz.prog 90 #[.int .u8 n, .slice A zs.length cap] w fun e w' => ∃ (A' : Option Addr) (c' : Nat), e = .returned (.tuple #[.slice A' (unpackOut n zs).length c', .int .u8 (packErr n zs.length)]) ∧
  IntsNew w.heap.size w' .i16 A' (unpackOut n zs) ∧ Below w.heap.size w w' := by
 by_cases h1 : n = 1
 · subst h1
   by_cases h8 : zs.length ≤ 8000
   · refine (zkb A zs cap w hA hz h8).mono ?_
     rintro e w' ⟨A', c', rfl, h, hb⟩
     have e1 : unpackOut 1 zs = zs.map Cmp.fromMuZ := by unfold unpackOut; rw [if_pos ⟨rfl, h8⟩]
     have e2 : packErr 1 zs.length = 0 := by unfold packErr; rw [if_neg (by simp), if_neg (by omega)]
     rw [e1, e2, List.length_map]
     exact ⟨A', c', rfl, h, hb⟩
   · refine (zej 1 A zs.length cap w (.inl rfl) (by omega)).mono ?_
     rintro e w' ⟨rfl, rfl⟩
     have e1 : unpackOut 1 zs = [] := by unfold unpackOut; rw [if_neg (by omega), if_neg (by omega)]
     have e2 : packErr 1 zs.length = 4 := by unfold packErr; rw [if_neg (by simp), if_pos (by omega)]
     rw [e1, e2]
     exact ⟨none, 0, rfl, IntsNew.nil, Below.refl _ _⟩
 · by_cases h2 : n = 2
   · subst h2
     by_cases h8 : zs.length ≤ 8000
     · refine (zmy A zs cap w hA hz h8).mono ?_
       rintro e w' ⟨A', c', rfl, h, hb⟩
       have e1 : unpackOut 2 zs = zs.map Cmp.fromAZ := by unfold unpackOut; rw [if_neg (by omega), if_pos ⟨rfl, h8⟩]
       have e2 : packErr 2 zs.length = 0 := by unfold packErr; rw [if_neg (by simp), if_neg (by omega)]
       rw [e1, e2, List.length_map]
       exact ⟨A', c', rfl, h, hb⟩
     · refine (zej 2 A zs.length cap w (.inr rfl) (by omega)).mono ?_
       rintro e w' ⟨rfl, rfl⟩
       have e1 : unpackOut 2 zs = [] := by unfold unpackOut; rw [if_neg (by omega), if_neg (by omega)]
       have e2 : packErr 2 zs.length = 4 := by unfold packErr; rw [if_neg (by simp), if_pos (by omega)]
       rw [e1, e2]
       exact ⟨none, 0, rfl, IntsNew.nil, Below.refl _ _⟩
   · obtain ⟨hn1, hn2, hn3, hn4⟩ := zit n h1 h2
     refine (zmx n A zs.length cap w hn3 hn4).mono ?_
     rintro e w' ⟨rfl, rfl⟩
     have e1 : unpackOut n zs = [] := by unfold unpackOut; rw [if_neg (by omega), if_neg (by omega)]
     have e2 : packErr n zs.length = 2 := by unfold packErr; rw [if_pos ⟨h1, h2⟩]
     rw [e1, e2]
     exact ⟨none, 0, rfl, IntsNew.nil, Below.refl _ _⟩
theorem zkc (n : Nat) (A : Option Addr) (bs : List Int) (cap : Nat) (w : World) (hn : n ≤ 8000) (hA : IntsAt w w.heap.size .u8 A bs) (hz : Within 0 255 bs) (hok : Dlt.okB bs n) (hcap : bs.length ≤ cap) :
 Calls Tryz.prog 89 #[.slice A bs.length cap, .int .i64 n] w fun e w' => ∃ (A' : Option Addr) (c' : Nat), e = .returned (.tuple #[.slice A' n c', .agg #[.int .i64 (Dlt.dAt (Dlt.headS bs) bs n).1, .int .i64 (Dlt.dAt (Dlt.headS bs) bs n).2], .int .u8 0]) ∧
  IntsNew w.heap.size w' .i16 A' (Dlt.unpackL bs n) ∧ Below w.heap.size w w' := by
 have HVAL := H9 (Dlt.headS_valid bs n hok hz)
 obtain ⟨ok1, ok2, ok3, ok4⟩ := hok
 obtain ⟨b, off, rfl, hbB, qc⟩ := hA (by omega)
 have c0 := qc 0 (by omega)
 have c1 := qc 1 (by omega)
 have c2 := qc 2 (by omega)
 have c3 := qc 3 (by omega)
 have cl := qc (bs.length - 1) (by omega)
 obtain ⟨l0, l1⟩ := hz.at (i := bs.length - 1) (by omega)
 obtain ⟨a0, a1⟩ := hz.at (i := 0) (by omega)
 obtain ⟨b0, b1⟩ := hz.at (i := 1) (by omega)
 obtain ⟨g0, g1⟩ := hz.at (i := 2) (by omega)
 have hb' : b ≠ w.heap.size := by omega
 have hb'' : b ≠ w.heap.size + 1 := by omega
 generalize hx0 : bs.getD 0 0 = x0 at *
 generalize hx1 : bs.getD 1 0 = x1 at *
 generalize hx2 : bs.getD 2 0 = x2 at *
 generalize hx3 : bs.getD 3 0 = x3 at *
 have HX3 := H9 (show bs.getD 3 0 = 0 by rw [hx3, ok3])
 subst ok3
 generalize bs.getD (bs.length - 1) 0 = xl at *
 have HX0 := H9 hx0
 have HX1 := H9 hx1
 have HX2 := H9 hx2
 have HCELL := H9 qc
 have HZ := H9 hz
 generalize hM : bs.length = M at *
 have HMM := H9 hM
 clear hA hz qc hx0 hx1 hx2 hM
 have hM4 : (4 : Int) ≤ (M : Int) := by omega
 have hM2 : (2 : Int) < (M : Int) := by omega
 have hM3 : (3 : Int) < (M : Int) := by omega
 have hM1 : (1 : Int) < (M : Int) := by omega
 have hM0 : (0 : Int) < (M : Int) := by omega
 have hl0 : (0 : Int) ≤ (M : Int) - 1 := by omega
 have hl1 : (M : Int) - 1 < (M : Int) := by omega
 have hl2 : ((M : Int) - 1).toNat = M - 1 := by omega
 have cc0 : (w.alloc (.cells #[.int .i64 0, .int .i64 0] 24)).cell? ⟨b, off, none⟩ = some (.int .u8 x0) := (World.cell?_alloc_lt w _ _ hbB).trans c0
 have cc1 : (w.alloc (.cells #[.int .i64 0, .int .i64 0] 24)).cell? ⟨b, off + 1, none⟩ = some (.int .u8 x1) := (World.cell?_alloc_lt w _ _ hbB).trans c1
 have cc2 : (w.alloc (.cells #[.int .i64 0, .int .i64 0] 24)).cell? ⟨b, off + 2, none⟩ = some (.int .u8 x2) := (World.cell?_alloc_lt w _ _ hbB).trans c2
 have cc3 : (w.alloc (.cells #[.int .i64 0, .int .i64 0] 24)).cell? ⟨b, off + 3, none⟩ = some (.int .u8 0) := (World.cell?_alloc_lt w _ _ hbB).trans c3
 have ccl : (w.alloc (.cells #[.int .i64 0, .int .i64 0] 24)).cell? ⟨b, off + (M - 1), none⟩ = some (.int .u8 xl) := (World.cell?_alloc_lt w _ _ hbB).trans cl
 have cd0 : ((w.alloc (.cells #[.int .i64 0, .int .i64 0] 24)).alloc (.cells #[.int .i64 0, .int .i64 0] 24)).cell? ⟨b, off, none⟩ = some (.int .u8 x0) := (World.cell?_alloc_lt _ _ _ (by simp; omega)).trans ((World.cell?_alloc_lt w _ _ hbB).trans c0)
 have cd1 : ((w.alloc (.cells #[.int .i64 0, .int .i64 0] 24)).alloc (.cells #[.int .i64 0, .int .i64 0] 24)).cell? ⟨b, off + 1, none⟩ = some (.int .u8 x1) := (World.cell?_alloc_lt _ _ _ (by simp; omega)).trans ((World.cell?_alloc_lt w _ _ hbB).trans c1)
 have cd2 : ((w.alloc (.cells #[.int .i64 0, .int .i64 0] 24)).alloc (.cells #[.int .i64 0, .int .i64 0] 24)).cell? ⟨b, off + 2, none⟩ = some (.int .u8 x2) := (World.cell?_alloc_lt _ _ _ (by simp; omega)).trans ((World.cell?_alloc_lt w _ _ hbB).trans c2)
 clear c0 c1 c2 c3 cl
 obtain ⟨N, hN⟩ : ∃ N, N = 4 + (n + 1) / 2 := ⟨_, rfl⟩
 obtain rfl : M = N := by omega
 have HS := H9 hN.symm
 have hsI : (4 : Int) + ((n : Int) + 1) / 2 = (M : Int) := by omega
 have h5' : M ≤ 4005 := by omega
 clear hN ok1
 have hpar : (n : Int) % 2 = 0 ∨ ((n : Int) % 2 = 1 ∧ (xl % 16 != 0) = false) := by
  by_cases h : n % 2 = 1
  · exact .inr ⟨by omega, by have := ok4 h; simp [this]⟩
  · exact .inl (by omega)
 clear ok4
 have hword : ∃ v0 : Int, v0 = (256 * x0 + x1 + 32768) % 65536 - 32768 ∧ ((256 * x0 + x1 ≤ 32767 ∧ 256 * x0 + x1 = v0) ∨ (32767 < 256 * x0 + x1 ∧ 256 * x0 + x1 - 65536 = v0)) := ⟨_, rfl, by omega⟩
 obtain ⟨V0, hV0, hword⟩ := hword
 have HH : Hid (Dlt.headS bs = (V0, x2)) := H9 (by unfold Dlt.headS; rw [HX0.out, HX1.out, HX2.out, hV0])
 have HSV0 : Hid (Dlt.valid V0 x2 = true) := H9 (by have h := HVAL.out; rw [HH.out] at h; exact h)
 clear hV0
 go_enter Tryz.func89, Tryz.ntmps89
 rcases hpar with hp | ⟨hp, hq⟩
 all_goals rcases hword with ⟨hw1, hw2⟩ | ⟨hw1, hw2⟩
 all_goals
  go_wp2_with fail
  go_quiet (fail)
  go_wp2_with fail
  try rw [hw2]
  go_loopw [9, 10] (fun u q wr => ∃ (k : Nat) (A' : Option Addr) (c' : Nat) (xs : List Value), k ≤ n ∧ q = .int .i64 k ∧ u = .slice A' k c' ∧ Owns wr (w.heap.size + 1 + 1) 93 1 A' k c' xs ∧ Hid (xs = (List.range k).map (fun j => Value.int .i16 (Dlt.dAt (V0, x2) bs (j + 1)).1)) ∧
   Blk wr w.heap.size 24 #[.int .i64 0, .int .i64 0] ∧ Blk wr (w.heap.size + 1) 24 #[.int .i64 (Dlt.dAt (V0, x2) bs k).1, .int .i64 (Dlt.dAt (V0, x2) bs k).2] ∧ Below w.heap.size w wr)
   (fun _ q _ => n - (intOf q).toNat)
  case atStart =>
   refine ⟨0, none, 0, [], Nat.zero_le _, rfl, rfl, Owns.nil, H9 rfl, ?_, ?_, ?_⟩
   · exact (Blk.new w _ _).alloc _
   · have h := Blk.new (w.alloc (.cells #[.int .i64 0, .int .i64 0] 24)) 24 #[.int .i64 V0, .int .i64 x2]
     rw [show (w.alloc (.cells #[.int .i64 0, .int .i64 0] 24)).heap.size = w.heap.size + 1 by simp] at h
     exact h
   · exact below_drewN (((Below.refl _ w).alloc (Nat.le_refl _) _).alloc (by simp) _) _
  case round =>
   obtain ⟨k, A', c', xs, hk, rfl, rfl, qo, HX, B0, B1, hb⟩ := hrel
   have HSV := H9 (Dlt.dAt_valid (V0, x2) HSV0.out bs k)
   have HNX : Hid (Dlt.dAt (V0, x2) bs (k + 1) = (Dlt.nextV (Dlt.dAt (V0, x2) bs k).1 (Dlt.dAt (V0, x2) bs k).2 (Dlt.nib bs k), Dlt.nextI (Dlt.dAt (V0, x2) bs k).2 (Dlt.nib bs k))) := H9 rfl
   by_cases hlt : k < n
   · have hM6 : 4 + k / 2 < M := by have := HS.out; omega
     have hck : wr.cell? ⟨b, off + (4 + k / 2), none⟩ = some (.int .u8 (bs.getD (4 + k / 2) 0)) := (hb.cell (p := ⟨b, off + (4 + k / 2), none⟩) hbB).trans (HCELL.out _ hM6)
     have hzk := HZ.out.at (i := 4 + k / 2) (by rw [HMM.out]; exact hM6)
     have hnib : Dlt.nib bs k = if k % 2 = 0 then bs.getD (4 + k / 2) 0 / 16 else bs.getD (4 + k / 2) 0 % 16 := rfl
     generalize bs.getD (4 + k / 2) 0 = x at hck hzk hnib
     obtain ⟨z0, z1⟩ := hzk
     generalize hc : Dlt.nib bs k = c at *
     generalize hV : (Dlt.dAt (V0, x2) bs k).1 = V at *
     generalize hI : (Dlt.dAt (V0, x2) bs k).2 = I at *
     have HC := H9 hnib
     have c0 := B1.at 0 _ rfl
     have c1 := B1.at 1 _ rfl
     have f0 := B1.frozen 0
     have f1 := B1.frozen 1
     have HB0 := H9 B0
     have HB1 := H9 B1
     have HO := H9 qo
     have HB := H9 hb
     have hn0 : (0 : Int) ≤ 4 + (k : Int) / 2 := by omega
     have hn2 : 4 + (k : Int) / 2 < (M : Int) := by omega
     have hn3 : (4 + (k : Int) / 2).toNat = 4 + k / 2 := by omega
     have hk0 : (0 : Int) ≤ (k : Int) := by omega
     have hk1 : (k : Int) < (n : Int) := by omega
     clear B0 B1 qo hb hV hI hc hnib
     by_cases hpar : k % 2 = 0
     · have hpar' : (k : Int) % 2 = 0 := by omega
       have hce : x / 16 = c := by have := HC.out; rw [if_pos hpar] at this; omega
       have HCE := H9 hce
       clear hpar hce
       go_wp2_with fail
       refine (zfc V I _ _ HSV.out (by omega) (by omega)).mono ?_
       rintro e w6 ⟨rfl, hb6⟩
       rw [HCE.out]
       have HB06 := H9 (HB0.out.later hb6)
       have HB16 := H9 (HB1.out.later hb6)
       have HO6 := H9 (HO.out.below hb6)
       have HBW6 := H9 (HB.out.trans (hb6.mono HB.out.size))
       clear hb6 HB0 HB1 HO HB c0 c1 f0 f1 hck
       have c0 := HB16.out.at 0 _ rfl
       have c1 := HB16.out.at 1 _ rfl
       have f0 := HB16.out.frozen 0
       have f1 := HB16.out.frozen 1
       have hbs2 := HB16.out.lt
       have HO7 : Hid (Owns ((w6.setCell ⟨w.heap.size + 1, 0, none⟩ (.int .i64 (Dlt.nextV V I c))).setCell ⟨w.heap.size + 1, 1, none⟩ (.int .i64 (Dlt.nextI I c))) (w.heap.size + 1 + 1) 93 1 A' k c' xs) :=
        H9 ((HO6.out.setCell (fun g hg => by have := (HO6.out.block g hg).1; simp; omega) _).setCell (fun g hg => by have := (HO6.out.block g hg).1; simp; omega) _)
       have HSZ : Hid (((w6.setCell ⟨w.heap.size + 1, 0, none⟩ (.int .i64 (Dlt.nextV V I c))).setCell ⟨w.heap.size + 1, 1, none⟩ (.int .i64 (Dlt.nextI I c))).heap.size = w6.heap.size) := H9 (by simp [World.setCell])
       obtain ⟨nv0, nv1⟩ := Dlt.nextV_bd V I c
       go_wp2_with (at_builtin; go_loud (refine zaj rfl _ _ 66 rfl (w.heap.size + 1 + 1) 93 1 2 (.int .i16 0) Tryz.underlying66 zhd rfl (by decide) A' k c' xs rfl HO7.out [.int .i16 (Dlt.nextV V I c)] rfl (by simp [Value.oneCell']) (by rw [HSZ.out]; rfl) (by unfold maxLen; omega) (by omega) (by rw [HSZ.out]; omega) ?_); intro A2 c2 w2 hown2 hg2 hlt2)
       go_roundw
       case rel =>
        refine ⟨k + 1, A2, c2, _, by omega, by go_num, rfl, hown2, H9 ?_, ?_, ?_, ?_⟩
        · rw [HX.out, List.range_succ, List.map_append, List.map_singleton, HNX.out]
        · exact ((HB06.out.far (by simp) _).far (by simp) _).grown hg2 (fun h => by have := (HO7.out.block _ h.symm).1; omega)
        · rw [HNX.out]
          exact ((HB16.out.set_ 0 _).set_ 1 _).grown hg2 (fun h => by have := (HO7.out.block _ h.symm).1; omega)
        · exact zbj ((HBW6.out.setCell (by simp) _).setCell (by simp) _) HO7.out hg2 (by simp; omega) (by omega)
       case measure => simp [intOf]; omega
     · have hpar' : (k : Int) % 2 = 1 := by omega
       have hce : x % 16 = c := by have := HC.out; rw [if_neg hpar] at this; omega
       have HCE := H9 hce
       clear hpar hce
       go_wp2_with fail
       refine (zfc V I _ _ HSV.out (by omega) (by omega)).mono ?_
       rintro e w6 ⟨rfl, hb6⟩
       rw [HCE.out]
       have HB06 := H9 (HB0.out.later hb6)
       have HB16 := H9 (HB1.out.later hb6)
       have HO6 := H9 (HO.out.below hb6)
       have HBW6 := H9 (HB.out.trans (hb6.mono HB.out.size))
       clear hb6 HB0 HB1 HO HB c0 c1 f0 f1 hck
       have c0 := HB16.out.at 0 _ rfl
       have c1 := HB16.out.at 1 _ rfl
       have f0 := HB16.out.frozen 0
       have f1 := HB16.out.frozen 1
       have hbs2 := HB16.out.lt
       have HO7 : Hid (Owns ((w6.setCell ⟨w.heap.size + 1, 0, none⟩ (.int .i64 (Dlt.nextV V I c))).setCell ⟨w.heap.size + 1, 1, none⟩ (.int .i64 (Dlt.nextI I c))) (w.heap.size + 1 + 1) 93 1 A' k c' xs) :=
        H9 ((HO6.out.setCell (fun g hg => by have := (HO6.out.block g hg).1; simp; omega) _).setCell (fun g hg => by have := (HO6.out.block g hg).1; simp; omega) _)
       have HSZ : Hid (((w6.setCell ⟨w.heap.size + 1, 0, none⟩ (.int .i64 (Dlt.nextV V I c))).setCell ⟨w.heap.size + 1, 1, none⟩ (.int .i64 (Dlt.nextI I c))).heap.size = w6.heap.size) := H9 (by simp [World.setCell])
       obtain ⟨nv0, nv1⟩ := Dlt.nextV_bd V I c
       go_wp2_with (at_builtin; go_loud (refine zaj rfl _ _ 66 rfl (w.heap.size + 1 + 1) 93 1 2 (.int .i16 0) Tryz.underlying66 zhd rfl (by decide) A' k c' xs rfl HO7.out [.int .i16 (Dlt.nextV V I c)] rfl (by simp [Value.oneCell']) (by rw [HSZ.out]; rfl) (by unfold maxLen; omega) (by omega) (by rw [HSZ.out]; omega) ?_); intro A2 c2 w2 hown2 hg2 hlt2)
       go_roundw
       case rel =>
        refine ⟨k + 1, A2, c2, _, by omega, by go_num, rfl, hown2, H9 ?_, ?_, ?_, ?_⟩
        · rw [HX.out, List.range_succ, List.map_append, List.map_singleton, HNX.out]
        · exact ((HB06.out.far (by simp) _).far (by simp) _).grown hg2 (fun h => by have := (HO7.out.block _ h.symm).1; omega)
        · rw [HNX.out]
          exact ((HB16.out.set_ 0 _).set_ 1 _).grown hg2 (fun h => by have := (HO7.out.block _ h.symm).1; omega)
        · exact zbj ((HBW6.out.setCell (by simp) _).setCell (by simp) _) HO7.out hg2 (by simp; omega) (by omega)
       case measure => simp [intOf]; omega
   · obtain rfl : k = n := by omega
     have HB0 := H9 B0
     have HB1 := H9 B1
     have HO := H9 qo
     have HB := H9 hb
     have HHH := H9 (show Dlt.headS bs = (V0, x2) from HH.out)
     generalize hV : (Dlt.dAt (V0, x2) bs k).1 = V at *
     generalize hI : (Dlt.dAt (V0, x2) bs k).2 = I at *
     have HV := H9 hV
     have HI := H9 hI
     have c0 := B1.at 0 _ rfl
     have c1 := B1.at 1 _ rfl
     have d0 := B0.at 0 _ rfl
     have d1 := B0.at 1 _ rfl
     have f0 := B0.frozen 0
     have f1 := B0.frozen 1
     clear B0 B1 qo hb hV hI
     go_wp2
     go_region
     go_wp2
     refine bodyPost_ret (v := .tuple #[.slice A' k c', .agg #[.int .i64 V, .int .i64 I], .int .u8 0]) (by simp [results, Tryz.results89, go_sem, d0, d1]) rfl ?_
     refine ⟨A', c', by rw [HHH.out, HV.out, HI.out], ?_, ?_⟩
     · have h : Owns _ (w.heap.size + 1 + 1) 93 1 A' k c' xs := ((HO.out.setCell (p := ⟨w.heap.size, 0, none⟩) (fun g' hg => by have := (HO.out.block _ hg).1; simp; omega) (.int .i64 V)).setCell (p := ⟨w.heap.size, 1, none⟩) (fun g' hg => by have := (HO.out.block _ hg).1; simp; omega) (.int .i64 I)).drew
       have e : xs = (Dlt.unpackL bs k).map (Value.int .i16) := by rw [HX.out, Dlt.unpackL, HHH.out, List.map_map]; rfl
       rw [e] at h
       exact ⟨h.ints, fun _ b' o' e => by have := (h.block b' (by rw [e]; rfl)).1; omega⟩
     · exact ((HB.out.setCell (by simp) _).setCell (by simp) _).drew
section
variable (w : World) (A : Option Addr) (cap : Nat) (bs : List Int) (n : Int)
theorem ziv (hA : IntsAt w w.heap.size .u8 A bs) (hz : Within 0 255 bs) (hcap : bs.length ≤ cap) (hmax : bs.length ≤ maxLen) :
 Calls Tryz.prog 89 #[.slice A bs.length cap, .int .i64 n] w fun e w' => ∃ (A' : Option Addr) (c' : Nat), e = .returned (.tuple #[.slice A' (Dlt.unpR bs n).1.length c', .agg #[.int .i64 (Dlt.unpR bs n).2.1, .int .i64 (Dlt.unpR bs n).2.2.1], .int .u8 (Dlt.unpR bs n).2.2.2]) ∧
  IntsNew w.heap.size w' .i16 A' (Dlt.unpR bs n).1 ∧ Below w.heap.size w w' := by
 unfold Dlt.unpR
 by_cases hr : n < 0 ∨ 8000 < n
 · rw [if_pos hr]
   refine (zhk n A bs.length cap w hr).mono ?_
   rintro e w' ⟨rfl, hb⟩
   exact ⟨none, 0, rfl, IntsNew.nil, hb⟩
 · rw [if_neg hr]
   obtain ⟨m, rfl⟩ := Int.eq_ofNat_of_zero_le (a := n) (by omega)
   rw [Int.toNat_natCast]
   by_cases hs : bs.length < 4 + (m + 1) / 2
   · rw [if_pos hs]
     refine (zhl m A bs.length cap w (by omega) hs).mono ?_
     rintro e w' ⟨rfl, hb⟩
     exact ⟨none, 0, rfl, IntsNew.nil, hb⟩
   · rw [if_neg hs]
     by_cases hk : Dlt.okB bs m
     · rw [if_pos hk]
       refine (zkc m A bs cap w (by omega) hA hz hk hcap).mono ?_
       rintro e w' ⟨A', c', rfl, h⟩
       exact ⟨A', c', by rw [Dlt.unpackL_len], h⟩
     · rw [if_neg hk]
       refine (zfw m A bs cap w (by omega) hA hz (by omega) hk hmax).mono ?_
       rintro e w' ⟨rfl, hb⟩
       exact ⟨none, 0, rfl, IntsNew.nil, hb⟩
end
def RDecN (d : List Int × Int) (w : World) (e : Ending) (w' : World) : Prop := ∃ (A' : Option Addr) (c' : Nat), e = .returned (.tuple #[.slice A' d.1.length c', .int .u8 d.2]) ∧ IntsNew w.heap.size w' .i16 A' d.1 ∧ Below w.heap.size w w'
theorem zsz (n : Int) (A : Option Addr) (bs : List Int) (c : Nat) (w : World) (hA : IntsAt w w.heap.size .u8 A bs) (hz : Within 0 255 bs) (h8 : bs.length ≤ 8000) : Calls Tryz.prog 32 #[.int .u8 0, .slice A bs.length c, .int .i64 n] w (RDecN (Sb.decE 0 bs n) w) := by
 have e1 : Sb.decE 0 bs n = (bs.map Cmp.fromMuZ, 0) := by unfold Sb.decE; rw [if_pos rfl]
 rw [e1]
 clear e1
 have kU := H9 fun (W : World) hW => zek 1 A bs c W hW hz
 rw [show unpackOut 1 bs = bs.map Cmp.fromMuZ by unfold unpackOut; rw [if_pos ⟨rfl, h8⟩], show packErr 1 bs.length = 0 by unfold packErr; rw [if_neg (by decide), if_neg (by omega)]] at kU
 obtain ⟨ZL, hZL⟩ : ∃ Z, Z = bs.map Cmp.fromMuZ := ⟨_, rfl⟩
 rw [← hZL] at kU ⊢
 clear hZL
 have HA := H9 hA
 clear hA hz
 go_enter Tryz.func32, Tryz.ntmps32
 go_wp2_with fail
 refine (zer 0 _).mono ?_
 rintro e w1 ⟨rfl, hb1⟩
 have U := H9 (Bel.later (Bel.refl w) hb1)
 have hs1 := hb1.size
 replace HA := H9 (HA.out.later hb1)
 clear hb1
 rw [if_pos rfl]
 go_wp2_with fail
 refine (kU.out _ HA.out).mono ?_
 rintro e w2 ⟨A2, c2, rfl, hI, hb2⟩
 have U2 := H9 (U.out.later hb2)
 have HI := H9 hI
 clear hI hb2 kU
 go_wp2_with fail
 exact bodyPost_ret (v := .tuple #[.slice A2 ZL.length c2, .int .u8 0]) (by simp [results, Tryz.results32, go_sem]) rfl ⟨A2, c2, rfl, HI.out.less hs1, U2.out⟩
theorem zta (n : Int) (A : Option Addr) (bs : List Int) (c : Nat) (w : World) (hA : IntsAt w w.heap.size .u8 A bs) (hz : Within 0 255 bs) (h8 : bs.length ≤ 8000) : Calls Tryz.prog 32 #[.int .u8 8, .slice A bs.length c, .int .i64 n] w (RDecN (Sb.decE 8 bs n) w) := by
 have e1 : Sb.decE 8 bs n = (bs.map Cmp.fromAZ, 0) := by unfold Sb.decE; rw [if_neg (by decide), if_pos rfl]
 rw [e1]
 clear e1
 have kU := H9 fun (W : World) hW => zek 2 A bs c W hW hz
 rw [show unpackOut 2 bs = bs.map Cmp.fromAZ by unfold unpackOut; rw [if_neg (fun h => absurd h.1 (by decide)), if_pos ⟨rfl, h8⟩], show packErr 2 bs.length = 0 by unfold packErr; rw [if_neg (by decide), if_neg (by omega)]] at kU
 obtain ⟨ZL, hZL⟩ : ∃ Z, Z = bs.map Cmp.fromAZ := ⟨_, rfl⟩
 rw [← hZL] at kU ⊢
 clear hZL
 have HA := H9 hA
 clear hA hz
 go_enter Tryz.func32, Tryz.ntmps32
 go_wp2_with fail
 refine (zer 8 _).mono ?_
 rintro e w1 ⟨rfl, hb1⟩
 have U := H9 (Bel.later (Bel.refl w) hb1)
 have hs1 := hb1.size
 replace HA := H9 (HA.out.later hb1)
 clear hb1
 rw [if_neg (by decide)]
 go_wp2_with fail
 refine (kU.out _ HA.out).mono ?_
 rintro e w2 ⟨A2, c2, rfl, hI, hb2⟩
 have U2 := H9 (U.out.later hb2)
 have HI := H9 hI
 clear hI hb2 kU
 go_wp2_with fail
 exact bodyPost_ret (v := .tuple #[.slice A2 ZL.length c2, .int .u8 0]) (by simp [results, Tryz.results32, go_sem]) rfl ⟨A2, c2, rfl, HI.out.less hs1, U2.out⟩
theorem zra (n : Int) (A : Option Addr) (bs : List Int) (c : Nat) (w : World) (hA : IntsAt w w.heap.size .u8 A bs) (hz : Within 0 255 bs) (h8 : bs.length ≤ 8000) (hc : bs.length ≤ c) : Calls Tryz.prog 32 #[.int .u8 96, .slice A bs.length c, .int .i64 n] w (RDecN (Sb.decE 96 bs n) w) := by
 have e1 : Sb.decE 96 bs n = ((Dlt.unpR bs n).1, (Dlt.unpR bs n).2.2.2) := by unfold Sb.decE; rw [if_neg (by decide), if_neg (by decide)]
 rw [e1]
 clear e1
 have hm : bs.length ≤ maxLen := by unfold maxLen; omega
 have kU := H9 fun (W : World) hW => ziv W A c bs n hW hz hc hm
 generalize Dlt.unpR bs n = R at *
 obtain ⟨ZL, R2, R3, R4⟩ := R
 dsimp only at kU ⊢
 have HA := H9 hA
 clear hA hz
 go_enter Tryz.func32, Tryz.ntmps32
 go_wp2_with fail
 refine (kU.out _ HA.out).mono ?_
 rintro e w2 ⟨A2, c2, rfl, hI, hb2⟩
 have U2 := H9 ((Bel.later (Bel.refl w) hb2).push (.cells #[.int .i64 R2, .int .i64 R3] 24))
 have HI := H9 (hI.push (.cells #[.int .i64 R2, .int .i64 R3] 24))
 clear hI hb2 kU
 go_wp2_with fail
 exact bodyPost_ret (v := .tuple #[.slice A2 ZL.length c2, .int .u8 R4]) (by simp [results, Tryz.results32, go_sem]) rfl ⟨A2, c2, rfl, HI.out, U2.out⟩
theorem zpc (k : Int) (hk : speechB k = true) (n : Int) (A : Option Addr) (bs : List Int) (c : Nat) (w : World) (hA : IntsAt w w.heap.size .u8 A bs) (hz : Within 0 255 bs) (h8 : bs.length ≤ 8000) (hc : k = 96 → bs.length ≤ c) : Calls Tryz.prog 32 #[.int .u8 k, .slice A bs.length c, .int .i64 n] w (RDecN (Sb.decE k bs n) w) := by
 rcases zao.1 hk with rfl | rfl | rfl
 · exact zsz n A bs c w hA hz h8
 · exact zta n A bs c w hA hz h8
 · exact zra n A bs c w hA hz h8 (hc rfl)
theorem zpd (v i : Int) (A : Option Addr) (zs : List Int) (cap : Nat) (w : World) (hv : Dlt.valid v i = true) (hA : IntsAt w w.heap.size .i16 A zs) (hz : Within (-32768) 32767 zs) (h8 : zs.length ≤ 8000) :
 Calls Tryz.prog 86 #[.agg #[.int .i64 v, .int .i64 i], .slice A zs.length cap] w fun e w' => ∃ (A' : Option Addr) (c' : Nat), e = .returned (.tuple #[.slice A' (4 + (zs.length + 1) / 2) c', .agg #[.int .i64 (Dlt.stAt (v, i) zs zs.length).1, .int .i64 (Dlt.stAt (v, i) zs zs.length).2], .int .u8 0]) ∧
  4 + (zs.length + 1) / 2 ≤ c' ∧ IntsAt w' w'.heap.size .u8 A' (Dlt.packB (v, i) zs) ∧ Below w.heap.size w w' := by
 have hvv := zbr hv
 obtain ⟨g1, g2, g3, g4⟩ := hvv
 go_enter Tryz.func86, Tryz.ntmps86
 go_wp2_with fail
 refine (zlr v i _).mono ?_
 rintro e w' ⟨rfl, rfl⟩
 rw [hv]
 go_wp2_with fail
 rw [show (v + 65536) % 65536 = v % 65536 by omega]
 generalize hq : v % 65536 = q
 go_loopw [8, 9] (fun u q wr => ∃ (k : Nat) (A' : Option Addr) (c' n : Nat) (xs : List Value), k ≤ zs.length ∧ q = .int .i64 k ∧ u = .slice A' n c' ∧ Hid (n = 4 + (k + 1) / 2) ∧ Hid (xs = Dlt.rowK (v, i) zs k) ∧ Owns wr (w.heap.size + 1 + 1) 5 1 A' n c' xs ∧
  Blk wr w.heap.size 24 #[.int .i64 (Dlt.stAt (v, i) zs k).1, .int .i64 (Dlt.stAt (v, i) zs k).2] ∧
  Blk wr (w.heap.size + 1) 24 #[.int .i64 0, .int .i64 0] ∧ Below w.heap.size w wr)
  (fun _ q _ => zs.length - (intOf q).toNat)
 case atStart =>
  subst hq
  refine ⟨0, _, _, _, _, Nat.zero_le _, rfl, rfl, rfl, rfl, ?_, ?_, ?_, ?_⟩
  · have hs : (((w.alloc (.cells #[.int .i64 v, .int .i64 i] 24)).alloc (.cells #[.int .i64 0, .int .i64 0] 24)).alloc (.cells #[.int .i64 v, .int .i64 i] 24)).heap.size = w.heap.size + 1 + 1 + 1 := by simp
    have h := World.ownsRow_lit (base := w.heap.size + 1 + 1) (e := 5) (size := 1) (((w.alloc (.cells #[.int .i64 v, .int .i64 i] 24)).alloc (.cells #[.int .i64 0, .int .i64 0] 24)).alloc (.cells #[.int .i64 v, .int .i64 i] 24)) #[.int .u8 (v % 65536 / 256), .int .u8 (v % 256), .int .u8 i, .int .u8 0] 4 (by simp) (by unfold maxLen; omega) rfl
    have e0 : Dlt.rowK (v, i) zs 0 = [.int .u8 (v % 65536 / 256), .int .u8 (v % 256), .int .u8 i, .int .u8 0] := rfl
    rw [e0]
    rw [hs] at h
    exact h
  · exact (((Blk.new w _ _).alloc _).alloc _).alloc _
  · have h := Blk.new (w.alloc (.cells #[.int .i64 v, .int .i64 i] 24)) 24 #[.int .i64 0, .int .i64 0]
    rw [show (w.alloc (.cells #[.int .i64 v, .int .i64 i] 24)).heap.size = w.heap.size + 1 by simp] at h
    exact (h.alloc _).alloc _
  · exact ((((Below.refl _ w).alloc (Nat.le_refl _) _).alloc (by simp) _).alloc (by simp; omega) _).alloc (by simp; omega) _
 case round =>
  obtain ⟨k, A', c', n, xs, hk, rfl, rfl, HN, HX, qo, B0, B1, hb⟩ := hrel
  have HSV := H9 (Dlt.stAt_valid (v, i) hv zs k)
  by_cases hlt : k < zs.length
  · obtain ⟨b, off, rfl, hbB, qc⟩ := hA (by omega)
    have hzk := hz.at hlt
    have hck : wr.cell? ⟨b, off + k, none⟩ = some (.int .i16 (zs.getD k 0)) := (hb.cell (p := ⟨b, off + k, none⟩) hbB).trans (qc k hlt)
    have HS := H9 (Dlt.stAt_succ (v, i) zs k hlt)
    have hcd : Dlt.code (Dlt.stAt (v, i) zs k).1 (Dlt.stAt (v, i) zs k).2 (zs.getD k 0) = Dlt.codeAt (v, i) zs k := rfl
    obtain ⟨k0, k1⟩ := Dlt.codeAt_bd (v, i) zs k
    generalize hcc : Dlt.codeAt (v, i) zs k = c at *
    have HCC := H9 hcc
    generalize zs.getD k 0 = z at hck hzk hcd
    have HC := H9 hcd
    obtain ⟨z0, z1⟩ := hzk
    clear qc hcd hcc
    generalize hV : (Dlt.stAt (v, i) zs k).1 = V at *
    generalize hI : (Dlt.stAt (v, i) zs k).2 = I at *
    have HV := H9 hV
    have HI := H9 hI
    have c0 := B0.at 0 _ rfl
    have c1 := B0.at 1 _ rfl
    have HB0 := H9 B0
    have HB1 := H9 B1
    have HO := H9 qo
    have HB := H9 hb
    have hn0 : (0 : Int) ≤ (k : Int) := by omega
    have hn1 : (k : Int) < (zs.length : Int) := by omega
    clear B0 B1 hb hV hI qo
    go_wp2
    go_still_tail 5, (by kernel_rfl)
    change wpList _ _ _ _ _ wr.drew
    go_wp2_with fail
    refine (zoa V I z wr.drew HSV.out z0 z1).mono ?_
    rintro e w5 ⟨rfl, hb5⟩
    rw [HC.out]
    have HB05 := H9 (HB0.out.drew.later hb5)
    have HB15 := H9 (HB1.out.drew.later hb5)
    have HO5 := H9 (HO.out.drew.below hb5)
    have HBW5 := H9 (HB.out.drew.trans (hb5.mono HB.out.size))
    clear hb5 HB0 HB1 HO HB c0 c1 hck
    have c0 := HB05.out.at 0 _ rfl
    have c1 := HB05.out.at 1 _ rfl
    go_wp2_with fail
    refine (zfc V I c _ HSV.out k0 k1).mono ?_
    rintro e w6 ⟨rfl, hb6⟩
    have HB06 := H9 (HB05.out.later hb6)
    have HB16 := H9 (HB15.out.later hb6)
    have HO6 := H9 (HO5.out.below hb6)
    have HBW6 := H9 (HBW5.out.trans (hb6.mono HBW5.out.size))
    clear hb6 HB05 HB15 HO5 HBW5 c0 c1
    have c0 := HB06.out.at 0 _ rfl
    have c1 := HB06.out.at 1 _ rfl
    have f0 := HB06.out.frozen 0
    have f1 := HB06.out.frozen 1
    have hbs := HBW6.out.size
    have hbs2 := HB16.out.lt
    by_cases hpar : k % 2 = 0
    · have hpar' : (k : Int) % 2 = 0 := by omega
      have HP := H9 hpar
      have HM := H9 (show n = 4 + (k + 1) / 2 from HN.out)
      have HO7 : Hid (Owns ((w6.setCell ⟨w.heap.size, 0, none⟩ (.int .i64 (Dlt.nextV V I c))).setCell ⟨w.heap.size, 1, none⟩ (.int .i64 (Dlt.nextI I c))) (w.heap.size + 1 + 1) 5 1 A' n c' xs) :=
       H9 ((HO6.out.setCell (fun g hg => by have := (HO6.out.block g hg).1; simp; omega) _).setCell (fun g hg => by have := (HO6.out.block g hg).1; simp; omega) _)
      have hn2 : n ≤ 4004 := by rw [HN.out]; omega
      have HSZ : Hid (((w6.setCell ⟨w.heap.size, 0, none⟩ (.int .i64 (Dlt.nextV V I c))).setCell ⟨w.heap.size, 1, none⟩ (.int .i64 (Dlt.nextI I c))).heap.size = w6.heap.size) := H9 (by simp [World.setCell])
      clear hpar
      go_wp2_with (at_builtin; go_loud (refine zaj rfl _ _ 22 rfl (w.heap.size + 1 + 1) 5 1 1 (.int .u8 0) Tryz.underlying22 zrl rfl (by decide) A' n c' xs rfl HO7.out [.int .u8 (16 * c)] rfl (by simp [Value.oneCell']) (by rw [HSZ.out]; rfl) (by unfold maxLen; omega) (by omega) (by rw [HSZ.out]; omega) ?_); intro A2 c2 w2 hown2 hg2 hlt2)
      go_roundw
      case rel =>
       refine ⟨k + 1, A2, c2, n + 1, xs ++ [.int .u8 (16 * c)], by omega, by go_num, rfl, H9 (by rw [HN.out]; have := HP.out; omega), H9 (by rw [HX.out, Dlt.rowK_even _ _ _ HP.out, HCC.out]), hown2, ?_, ?_, ?_⟩
       · rw [HS.out]
         exact ((HB06.out.set_ 0 _).set_ 1 _).grown hg2 (fun h => by have := (HO7.out.block _ h.symm).1; omega)
       · exact ((HB16.out.far (by simp) _).far (by simp) _).grown hg2 (fun h => by have := (HO7.out.block _ h.symm).1; omega)
       · exact zbj ((HBW6.out.setCell (by simp) _).setCell (by simp) _) HO7.out hg2 (by simp; omega) (by omega)
      case measure => simp [intOf]; omega
    · have hpar' : (k : Int) % 2 = 1 := by omega
      have HP := H9 (show k % 2 = 1 by omega)
      obtain ⟨p0, p1⟩ := Dlt.codeAt_bd (v, i) zs (k - 1)
      have HL := Dlt.rowK_last (v, i) zs k HP.out
      rw [← HX.out] at HL
      have HO6' := Dlt.rowK_odd (v, i) zs k HP.out
      rw [HCC.out] at HO6'
      generalize Dlt.codeAt (v, i) zs (k - 1) = cp at *
      have HR := H9 HO6'
      clear HO6'
      obtain ⟨g, rfl, hg0, hg1⟩ := HO6.out.form (by rw [HN.out]; omega)
      obtain ⟨M, hM⟩ : ∃ M, M = 4 + k / 2 := ⟨_, rfl⟩
      obtain rfl : n = M + 1 := by rw [HN.out]; omega
      rw [← hM] at HL
      have HM := H9 hM
      have hM2 : M ≤ 4004 := by omega
      have hn3 : ((M + 1 : Nat) : Int) - 1 = (M : Int) := by omega
      have hrc : w6.cell? ⟨g, M, none⟩ = some (.int .u8 (16 * cp)) := by
       have h := World.ownsRow.cellAt HO6.out M (by omega)
       rw [h, HL]
      have hrf : w6.frozen? ⟨g, M, none⟩ = false := World.ownsRow.frozenAt HO6.out M
      have hd1 : w.heap.size ≠ g := by omega
      have hd2 : g ≠ w.heap.size := by omega
      clear hpar hM HL
      go_wp2
      go_roundw
      case rel =>
       have h := World.ownsRow.stored ((HO6.out.setCell (p := ⟨w.heap.size, 0, none⟩) (fun g' hg => by injection hg with hg; subst hg; simp; omega) (.int .i64 (Dlt.nextV V I c))).setCell (p := ⟨w.heap.size, 1, none⟩) (fun g' hg => by injection hg with hg; subst hg; simp; omega) (.int .i64 (Dlt.nextI I c))) M (.int .u8 (16 * cp + c))
       refine ⟨k + 1, some ⟨g, 0, none⟩, c', M + 1, xs.set M (.int .u8 (16 * cp + c)), by omega, by go_num, rfl, H9 (by rw [HM.out]; have := HP.out; omega), H9 (by rw [HR.out, HX.out, HM.out]), h.1, ?_, ?_, ?_⟩
       · rw [HS.out]
         exact ((HB06.out.set_ 0 _).set_ 1 _).far (by simp; omega) _
       · exact ((HB16.out.far (by simp) _).far (by simp) _).far (by simp; omega) _
       · exact ((HBW6.out.setCell (by simp) _).setCell (by simp) _).setCell (by simp; omega) _
      case measure => simp [intOf]; omega
  · obtain rfl : k = zs.length := by omega
    clear hA hz
    have HB0 := H9 B0
    have HB1 := H9 B1
    have HO := H9 qo
    have HB := H9 hb
    obtain ⟨g, rfl, hg0, hg1⟩ := qo.form (by rw [HN.out]; omega)
    generalize hV : (Dlt.stAt (v, i) zs zs.length).1 = V at *
    generalize hI : (Dlt.stAt (v, i) zs zs.length).2 = I at *
    have HV := H9 hV
    have HI := H9 hI
    have c0 := B0.at 0 _ rfl
    have c1 := B0.at 1 _ rfl
    have d0 := B1.at 0 _ rfl
    have d1 := B1.at 1 _ rfl
    have f0 := B1.frozen 0
    have f1 := B1.frozen 1
    clear B0 B1 hb hV hI qo
    go_wp2
    go_region
    go_wp2
    refine bodyPost_ret (v := .tuple #[.slice (some ⟨g, 0, none⟩) n c', .agg #[.int .i64 V, .int .i64 I], .int .u8 0]) (by simp [results, Tryz.results86, go_sem, d0, d1]) rfl ?_
    refine ⟨some ⟨g, 0, none⟩, c', by rw [HV.out, HI.out, HN.out], ?_, ?_, ?_⟩
    · have h := Owns.cap HO.out; rw [HN.out] at h; exact h
    · have h : Owns _ (w.heap.size + 1 + 1) 5 1 (some ⟨g, 0, none⟩) n c' xs := ((HO.out.setCell (p := ⟨w.heap.size + 1, 0, none⟩) (fun g' hg => by injection hg with hg; subst hg; simp; omega) (.int .i64 V)).setCell (p := ⟨w.heap.size + 1, 1, none⟩) (fun g' hg => by injection hg with hg; subst hg; simp; omega) (.int .i64 I)).drew
      rw [HX.out, Dlt.rowK_all] at h
      exact h.ints
    · exact ((HB.out.setCell (by simp) _).setCell (by simp) _).drew
theorem zmz (v i : Int) (A : Option Addr) (zs : List Int) (cap : Nat) (w : World) (hv : Dlt.valid v i = true) (hA : IntsAt w w.heap.size .i16 A zs) (hz : Within (-32768) 32767 zs) (h8 : zs.length ≤ 8000) : Calls Tryz.prog 86 #[.agg #[.int .i64 v, .int .i64 i], .slice A zs.length cap] w fun e w' => ∃ (A' : Option Addr) (c' : Nat), e = .returned (.tuple #[.slice A' (Dlt.packR v i zs).1.length c', .agg #[.int .i64 (Dlt.packR v i zs).2.1, .int .i64 (Dlt.packR v i zs).2.2.1], .int .u8 (Dlt.packR v i zs).2.2.2]) ∧ (Dlt.packR v i zs).1.length ≤ c' ∧ IntsAt w' w'.heap.size .u8 A' (Dlt.packR v i zs).1 ∧ Below w.heap.size w w' := by
 unfold Dlt.packR
 rw [if_pos hv, if_pos h8]
 refine (zpd v i A zs cap w hv hA hz h8).mono ?_
 rintro e w' ⟨A', c', rfl, hc, h⟩
 exact ⟨A', c', by rw [Dlt.packB_len], by rw [Dlt.packB_len]; exact hc, h⟩
def REncC (k : Int) (d : List Int × (Int × Int) × Int) (w : World) (e : Ending) (w' : World) : Prop := ∃ (A' : Option Addr) (c' : Nat), e = .returned (.tuple #[.slice A' d.1.length c', .agg #[.int .i64 d.2.1.1, .int .i64 d.2.1.2], .int .u8 d.2.2]) ∧ (k = 96 → d.1.length ≤ c') ∧ IntsAt w' w'.heap.size .u8 A' d.1 ∧ Below w.heap.size w w'
theorem zrb (v i : Int) (hv : Dlt.valid v i = true) (A : Option Addr) (zs : List Int) (c : Nat) (w : World) (hA : IntsAt w w.heap.size .i16 A zs) (hz : Within (-32768) 32767 zs) (h8 : zs.length ≤ 8000) : Calls Tryz.prog 31 #[.int .u8 96, .slice A zs.length c, .agg #[.int .i64 v, .int .i64 i]] w (REncC 96 (Sb.encE 96 v i zs) w) := by
 have e1 : Sb.encE 96 v i zs = ((Dlt.packR v i zs).1, ((Dlt.packR v i zs).2.1, (Dlt.packR v i zs).2.2.1), (Dlt.packR v i zs).2.2.2) := by unfold Sb.encE; rw [if_neg (by decide), if_neg (by decide)]
 rw [e1]
 clear e1
 have kU := H9 fun (W : World) hW => zmz v i A zs c W hv hW hz h8
 generalize Dlt.packR v i zs = P at *
 obtain ⟨EL, P2, P3, P4⟩ := P
 dsimp only at kU ⊢
 have HA := H9 hA
 clear hA hz hv
 have B0 := H9 ((Blk.new w 24 #[.int .i64 v, .int .i64 i]).push (.cells #[.int .i64 0, .int .i64 0] 24))
 have B1 := H9 (Blk.new1 w (.cells #[.int .i64 v, .int .i64 i] 24) 24 #[.int .i64 0, .int .i64 0])
 have U := H9 (((Bel.refl w).push (.cells #[.int .i64 v, .int .i64 i] 24)).push (.cells #[.int .i64 0, .int .i64 0] 24))
 replace HA := H9 ((HA.out.push (.cells #[.int .i64 v, .int .i64 i] 24)).push (.cells #[.int .i64 0, .int .i64 0] 24))
 go_enter Tryz.func31, Tryz.ntmps31
 go_upto_region 1 with fail
 change Code.wp _ _ _ _ ((w.alloc (Obj.cells #[.int .i64 v, .int .i64 i] 24)).alloc (Obj.cells #[.int .i64 0, .int .i64 0] 24))
 obtain ⟨W, hW⟩ : ∃ W, W = (w.alloc (Obj.cells #[.int .i64 v, .int .i64 i] 24)).alloc (Obj.cells #[.int .i64 0, .int .i64 0] 24) := ⟨_, rfl⟩
 rw [← hW] at HA B0 B1 U ⊢
 clear hW
 have s0 := B0.out.at 0 _ rfl
 have s1 := B0.out.at 1 _ rfl
 go_upto_region 2 with fail
 go_wp2_with fail
 refine (kU.out _ HA.out).mono ?_
 rintro e w2 ⟨A2, c2, rfl, hcc, hI, hb⟩
 have HE := H9 hI
 replace B1 := H9 (B1.out.later hb)
 replace U := H9 (U.out.later hb)
 clear hI hb kU HA s0 s1 B0
 have r0 := B1.out.at 0 _ rfl
 have r1 := B1.out.at 1 _ rfl
 have rz := B1.out.frozen
 have RF := B1.out.set_ 0 (.int .i64 P2)
 have RG := RF.set_ 1 (.int .i64 P3)
 have q1 := RF.at 1 _ rfl
 have UF := zah (zah U.out (by simp) (.int .i64 P2) (p := ⟨w.heap.size + 1, 0, none⟩)) (by simp) (.int .i64 P3) (p := ⟨w.heap.size + 1, 1, none⟩)
 have RE := (HE.out.set_ne2 r0 (by intro z e; cases e) (.int .i64 P2)).set_ne2 q1 (by intro z e; cases e) (.int .i64 P3)
 go_wp2_with fail
 refine bodyPost_ret (v := .tuple #[.slice A2 EL.length c2, .agg #[.int .i64 P2, .int .i64 P3], .int .u8 P4]) (zew Tryz.results31 rfl rfl (run_loadVar_row (P := Tryz.prog) _ _ _ _ _ _ _ RG Tryz.underlying24 rfl (by kernel_rfl)) rfl) rfl ⟨A2, c2, rfl, fun _ => hcc, ?_, UF⟩
 exact RE.more (by simp [World.setCell])
theorem zpe (k : Int) (hk : speechB k = true) (v i : Int) (hv : Dlt.valid v i = true) (A : Option Addr) (zs : List Int) (c : Nat) (w : World) (hA : IntsAt w w.heap.size .i16 A zs) (hz : Within (-32768) 32767 zs) (h8 : zs.length ≤ 8000) : Calls Tryz.prog 31 #[.int .u8 k, .slice A zs.length c, .agg #[.int .i64 v, .int .i64 i]] w (REncC k (Sb.encE k v i zs) w) := by
 rcases zao.1 hk with rfl | rfl | rfl
 · exact (zuh v i A zs c w hA hz h8).mono fun e w' ⟨A', c', h1, h2⟩ => ⟨A', c', h1, (fun h => by omega), h2⟩
 · exact (zui v i A zs c w hA hz h8).mono fun e w' ⟨A', c', h1, h2⟩ => ⟨A', c', h1, (fun h => by omega), h2⟩
 · exact zrb v i hv A zs c w hA hz h8
end Go.Proofs.YtahbecinkciahaaGreat
namespace Go.Proofs.YtahbecinkciahaaGreat
open Go.RowKit
theorem zrc (k : Int) (hk : speechB k = true) (v i : Int) (hv : Dlt.valid v i = true) (zs : List Int) (hl : zs.length = 160) : Sb.encE k v i zs = ((Sb.enc k (v, i) zs).1, (Sb.enc k (v, i) zs).2, 0) := by
 rcases zao.1 hk with rfl | rfl | rfl
 · rfl
 · rfl
 · unfold Sb.encE Dlt.packR
   rw [if_neg (by decide), if_neg (by decide), if_pos hv, if_pos (by omega)]
   rfl
theorem zrd (k : Int) (hk : speechB k = true) (s : Int × Int) (hv : Dlt.valid s.1 s.2 = true) (zs : List Int) (hl : zs.length = 160) : Sb.decE k (Sb.enc k s zs).1 160 = (Sb.decS k (Sb.enc k s zs).1, 0) := by
 rcases zao.1 hk with rfl | rfl | rfl
 · rfl
 · rfl
 · have h : -32768 ≤ s.1 ∧ s.1 ≤ 32767 ∧ 0 ≤ s.2 ∧ s.2 ≤ 88 := by simpa [Dlt.valid, and_assoc] using hv
   have hlen := Dlt.packB_len s zs
   have h2 : (Dlt.packB s zs).getD 2 0 ≤ 88 := by rw [Dlt.packB_at s zs 2 (by omega)]; show s.2 ≤ 88; omega
   have h3 : (Dlt.packB s zs).getD 3 0 = 0 := by rw [Dlt.packB_at s zs 3 (by omega)]; rfl
   have hf : Dlt.okB (Dlt.packB s zs) 160 := ⟨by rw [hlen, hl], h2, h3, fun h => by omega⟩
   have hg : Sb.Dlt.fits (Dlt.packB s zs) 160 := ⟨by rw [hlen, hl], h2, h3, fun h => by omega⟩
   have e1 : Dlt.unpR (Dlt.packB s zs) 160 = (Dlt.unpackL (Dlt.packB s zs) 160, (Dlt.dAt (Dlt.headS (Dlt.packB s zs)) (Dlt.packB s zs) 160).1, (Dlt.dAt (Dlt.headS (Dlt.packB s zs)) (Dlt.packB s zs) 160).2, 0) := by
    unfold Dlt.unpR
    rw [if_neg (by decide), show (160 : Int).toNat = 160 from rfl, if_neg (by rw [hlen, hl]; omega), if_pos hf]
   have e2 : Sb.decS 96 (Dlt.packB s zs) = Dlt.unpackL (Dlt.packB s zs) 160 := by
    unfold Sb.decS
    rw [if_neg (by decide), if_neg (by decide), if_pos rfl, if_pos hg]
   show ((Dlt.unpR (Dlt.packB s zs) 160).1, (Dlt.unpR (Dlt.packB s zs) 160).2.2.2) = (Sb.decS 96 (Dlt.packB s zs), 0)
   rw [e1, e2]
end Go.Proofs.YtahbecinkciahaaGreat
namespace Go.Proofs.YtahbecinkciahaaGreat
attribute [local go_sem ↓] zab zac
attribute [local go_sem] zaa zad
open Go.RowKit
theorem zpf {W W' : World} {bx : List Nat} {WA GA : Option Addr} (hg : W.grownBy W' (ownB WA)) : Chg (ES bx WA GA) W W' := Chg.of_grown hg fun k e => .inl (zbs.2 (.inr (.inl e)))
theorem ztb {W : World} {bx : List Nat} {WA An GA : Option Addr} (hat : ownB An = ownB WA ∨ ∀ g, ownB An = some g → W.heap.size ≤ g) : ∀ x ∈ ES bx An GA, x ∈ ES bx WA GA ∨ W.heap.size ≤ x := fun x hx => by
 rcases zbs.1 hx with h1 | h1 | h1
 · exact .inl (zbs.2 (.inl h1))
 · rcases hat with h2 | h2
   · exact .inl (zbs.2 (.inr (.inl (h2.symm.trans h1))))
   · exact .inr (h2 x h1)
 · exact .inl (zbs.2 (.inr (.inr h1)))
theorem EK.cell {W : World} {S : List Nat} {ZA : Option Addr} {zs : List Int} {bK oK : Nat} {a : TK} (h : EK W S ZA zs (some ⟨bK, oK, none⟩) a) (j : Nat) (v : Value) (hv : a.row[j]? = some v) : W.cell? ⟨bK, oK + j, none⟩ = some v := by
 obtain ⟨b, off, e, _, hc⟩ := h.r.1 (by simp)
 injection e with e
 injection e with e1 e2
 have h9 := hc 0 a rfl j v hv
 rw [← e1, ← e2] at h9
 simpa using h9
theorem EK.form {W : World} {S : List Nat} {ZA : Option Addr} {zs : List Int} {KA : Option Addr} {a : TK} (h : EK W S ZA zs KA a) : ∃ bK oK, KA = some ⟨bK, oK, none⟩ := by
 obtain ⟨b, off, e, _, _⟩ := h.r.1 (by simp)
 exact ⟨b, off, e⟩
theorem EK.want {W W' : World} {bx : List Nat} {WA An GA : Option Addr} {ZA : Option Addr} {zs : List Int} {KA : Option Addr} {a : TK} (h : EK W (ES bx WA GA) ZA zs KA a) (hg : W.grownBy W' (ownB WA)) (hat : ownB An = ownB WA ∨ ∀ g, ownB An = some g → W.heap.size ≤ g) : EK W' (ES bx An GA) ZA zs KA a :=
 ⟨⟨(h.z.chg (zpf hg) fun _ h => h).1, (h.z.re (ztb hat)).2⟩, ⟨(h.r.chg (zpf hg) fun _ h => h).1, (h.r.re (ztb hat)).2⟩, ⟨(h.pl.chg (zpf hg) fun _ h => h).1, (h.pl.re (ztb hat)).2⟩⟩
noncomputable def enD_code : Code := (((findB 1 (Tryz.f6.body.getD .skip)).bind (fromReg 38)).getD .skip)
theorem ztc {w W : World} {g5 ga gu gc M : Nat} {k ls mo trip : Int} {p u : Sb.Pt} {A1 : Option Addr} {c1 : Nat} {A2 : Option Addr} {n2 c2 : Nat} {l2 : List TW} {cv ci : Int} {WA : Option Addr} {wc : Nat} {wl : List TS} {GA : Option Addr} {gk : Nat} {gl : List TY} {i sq : Nat} {hi : Int} {f pr : Nat} {bL oL nL cL : Nat} {Q : Exit → Act → World → Prop} {zs : List Int} {ZA : Option Addr} {zc : Nat} {KA : Option Addr} {kc : Nat} {t : TK} (hk : speechB k = true) (i40 : i < 40) (t0 : 0 ≤ trip) (t1 : trip ≤ 65535) (hls0 : 1 ≤ ls) (hls1 : ls ≤ 1000) (hwl : wl.length ≤ 40) (K : EK W (ES [ga, gu, gc] WA GA) ZA zs KA t) (X : EV w W g5 ga gu gc M ls mo p u A1 c1 A2 n2 c2 l2 cv ci WA wc wl GA gk gl) (hty : t.k.ty = 101)
 (h : ∀ (W : World) (a : Act), EV w W g5 ga gu gc M ls mo p u A1 c1 A2 n2 c2 l2 cv ci WA wc wl GA gk gl → EK W (ES [ga, gu, gc] WA GA) ZA zs KA t → Fr 325 ((26, .slice KA 1 kc) :: (28, .int .i64 (20 * (i : Int) + trip)) :: EF k ls trip (some ⟨bL, oL, none⟩) nL cL g5 ga gu gc WA wl.length wc GA gl.length gk (pr : Int) (i : Int)) a → firstWp Tryz.prog enD_code Q a W) (a : Act) (ha : Fr 325 ((24, .slice ZA 160 zc) :: (26, .slice KA 1 kc) :: (28, .int .i64 (20 * (i : Int) + trip)) :: EF k ls trip (some ⟨bL, oL, none⟩) nL cL g5 ga gu gc WA wl.length wc GA gl.length gk (pr : Int) (i : Int)) a) : firstWp Tryz.prog enC_code Q a W := by
 obtain ⟨s, rfl, hs⟩ := ha
 rw [r325]
 obtain ⟨e24, e26, e28, e2, e3, e5, e9, e10, e12, e13, e14, e15, e16, e17, e18, e19, _⟩ := hs
 rw [e9, e26, e28]
 obtain ⟨bK, oK, rfl⟩ := K.form
 have x1 := K.cell 1 (.int .u8 t.k.ty) rfl
 rw [hty] at x1
 have hne : ¬(101 : Int) = k := by rcases zao.1 hk with h | h | h <;> omega
 clear hty
 refine zbe ?_
 intro _ _ _ _
 go_upto_region 38 with fail
 refine zbp (by assumption) ?_
 refine h _ _ X K ?_
 exact Fr.mk rfl ⟨rfl, rfl, rfl, rfl, rfl, rfl, rfl, rfl, rfl, rfl, rfl, rfl, rfl, rfl, rfl, trivial⟩
theorem ztd {w W : World} {g5 ga gu gc M : Nat} {k ls mo trip : Int} {p u : Sb.Pt} {A1 : Option Addr} {c1 : Nat} {A2 : Option Addr} {n2 c2 : Nat} {l2 : List TW} {cv ci : Int} {WA : Option Addr} {wc : Nat} {wl : List TS} {GA : Option Addr} {gk : Nat} {gl : List TY} {i sq : Nat} {hi : Int} {f pr : Nat} {bL oL nL cL : Nat} {Q : Exit → Act → World → Prop} {zs : List Int} {ZA : Option Addr} {zc : Nat} {KA : Option Addr} {kc : Nat} {t : TK} (hk : speechB k = true) (i40 : i < 40) (t0 : 0 ≤ trip) (t1 : trip ≤ 65535) (hls0 : 1 ≤ ls) (hls1 : ls ≤ 1000) (hwl : wl.length ≤ 40) (K : EK W (ES [ga, gu, gc] WA GA) ZA zs KA t) (X : EV w W g5 ga gu gc M ls mo p u A1 c1 A2 n2 c2 l2 cv ci WA wc wl GA gk gl) (hty : t.k.ty = 13)
 (h : ∀ (W : World) (a : Act) (A9 : Option Addr) (c9 : Nat), EV w W g5 ga gu gc M ls mo p u A1 c1 A2 n2 c2 l2 cv ci A9 c9 (wl ++ [⟨⟨20 * (i : Int) + trip + ls, [], []⟩, none, 0⟩]) GA gk gl → EK W (ES [ga, gu, gc] A9 GA) ZA zs KA t → Fr 325 ((26, .slice KA 1 kc) :: (28, .int .i64 (20 * (i : Int) + trip)) :: EF k ls trip (some ⟨bL, oL, none⟩) nL cL g5 ga gu gc A9 (wl ++ [(⟨⟨20 * (i : Int) + trip + ls, [], []⟩, none, 0⟩ : TS)]).length c9 GA gl.length gk (pr : Int) (i : Int)) a → firstWp Tryz.prog enD_code Q a W) (a : Act) (ha : Fr 325 ((24, .slice ZA 160 zc) :: (26, .slice KA 1 kc) :: (28, .int .i64 (20 * (i : Int) + trip)) :: EF k ls trip (some ⟨bL, oL, none⟩) nL cL g5 ga gu gc WA wl.length wc GA gl.length gk (pr : Int) (i : Int)) a) : firstWp Tryz.prog enC_code Q a W := by
 obtain ⟨s, rfl, hs⟩ := ha
 rw [r325]
 obtain ⟨e24, e26, e28, e2, e3, e5, e9, e10, e12, e13, e14, e15, e16, e17, e18, e19, _⟩ := hs
 rw [e5, e9, e13, e26, e28]
 obtain ⟨bK, oK, rfl⟩ := K.form
 have x1 := K.cell 1 (.int .u8 t.k.ty) rfl
 rw [hty] at x1
 have hne : ¬(13 : Int) = k := by rcases zao.1 hk with h | h | h <;> omega
 have x5 := X.b5.at 0 _ rfl
 have h5 : (wl.length + 1) * 56 ≤ 140737488355328 := by omega
 have h6 : wl.length + 1 ≤ maxLen := by unfold maxLen; omega
 clear hty
 refine zbe ?_
 intro _ _ _ _
 go_upto_region 38 with (at_builtin; go_loud (refine zax (w0 := W) rfl _ _ 54 rfl M 86 3 56 _ Tryz.underlying54 zcr rfl (by decide) WA wl.length wc _ rfl X.m.wown [.int .i64 (20 * (i : Int) + trip + ls), .slice none 0 0, .slice none 0 0] rfl (by simp [Value.oneCell']) rfl h6 h5 X.lt ?_); intro A9 c9 v1 qo hgr hat)
 clear x1 x5
 have X2 := X.want ⟨⟨20 * (i : Int) + trip + ls, [], []⟩, none, 0⟩ hgr qo hat IntsAv.nil
 have K2 := K.want hgr hat
 clear hgr qo hat
 refine zbp (by assumption) ?_
 refine h _ _ _ _ X2 K2 ?_
 exact Fr.mk rfl ⟨rfl, rfl, rfl, rfl, rfl, rfl, rfl, rfl, by simp only [List.length_append]; rfl, rfl, rfl, rfl, rfl, rfl, rfl, trivial⟩
theorem zte {w W : World} {g5 ga gu gc M : Nat} {k ls mo trip : Int} {p u : Sb.Pt} {A1 : Option Addr} {c1 : Nat} {A2 : Option Addr} {n2 c2 : Nat} {l2 : List TW} {cv ci : Int} {WA : Option Addr} {wc : Nat} {wl : List TS} {GA : Option Addr} {gk : Nat} {gl : List TY} {i sq : Nat} {hi : Int} {f pr : Nat} {bL oL nL cL : Nat} {Q : Exit → Act → World → Prop} {zs : List Int} {ZA : Option Addr} {zc : Nat} {KA : Option Addr} {kc : Nat} {t : TK} (hk : speechB k = true) (i40 : i < 40) (t0 : 0 ≤ trip) (t1 : trip ≤ 65535) (hls0 : 1 ≤ ls) (hls1 : ls ≤ 1000) (hwl : wl.length ≤ 40) (K : EK W (ES [ga, gu, gc] WA GA) ZA zs KA t) (X : EV w W g5 ga gu gc M ls mo p u A1 c1 A2 n2 c2 l2 cv ci WA wc wl GA gk gl) (hQp : ∀ (ch : _) (a : Act) (d : Tmp) (u : Value) (w : World), Q (.panic ch) (a.put (some d) u) w → Q (.panic ch) a w) (hv : Dlt.valid cv ci = true) (hzl : zs.length = 160) (hzw : Within (-32768) 32767 zs) (hpl : t.k.pl = (Sb.enc k (cv, ci) zs).1) (hty : t.k.ty = k)
 (h : ∀ (W : World) (a : Act) (A9 : Option Addr) (c9 : Nat) (A4 : Option Addr) (c4 : Nat), EV w W g5 ga gu gc M ls mo p u A1 c1 A2 n2 c2 l2 (Sb.enc k (cv, ci) zs).2.1 (Sb.enc k (cv, ci) zs).2.2 A9 c9 (wl ++ [⟨⟨20 * (i : Int) + trip + ls, Sb.decS k (Sb.enc k (cv, ci) zs).1, []⟩, A4, c4⟩]) GA gk gl → EK W (ES [ga, gu, gc] A9 GA) ZA zs KA t → Fr 325 ((26, .slice KA 1 kc) :: (28, .int .i64 (20 * (i : Int) + trip)) :: EF k ls trip (some ⟨bL, oL, none⟩) nL cL g5 ga gu gc A9 (wl ++ [(⟨⟨20 * (i : Int) + trip + ls, Sb.decS k (Sb.enc k (cv, ci) zs).1, []⟩, A4, c4⟩ : TS)]).length c9 GA gl.length gk (pr : Int) (i : Int)) a → firstWp Tryz.prog enD_code Q a W) (a : Act) (ha : Fr 325 ((24, .slice ZA 160 zc) :: (26, .slice KA 1 kc) :: (28, .int .i64 (20 * (i : Int) + trip)) :: EF k ls trip (some ⟨bL, oL, none⟩) nL cL g5 ga gu gc WA wl.length wc GA gl.length gk (pr : Int) (i : Int)) a) : firstWp Tryz.prog enC_code Q a W := by
 obtain ⟨s, rfl, hs⟩ := ha
 rw [r325]
 obtain ⟨e24, e26, e28, e2, e3, e5, e9, e10, e12, e13, e14, e15, e16, e17, e18, e19, _⟩ := hs
 rw [e5, e9, e13, e16, e24, e26, e28]
 obtain ⟨bK, oK, rfl⟩ := K.form
 have x1 := K.cell 1 (.int .u8 t.k.ty) rfl
 rw [hty] at x1
 have hpb := Sb.enc_in k (cv, ci) zs hv hzl
 have kD := fun (V : World) (A : Option Addr) (c : Nat) hA hc => zpc k hk 160 A (Sb.enc k (cv, ci) zs).1 c V hA hpb.1 (by have := hpb.2.1; omega) hc
 have kE := fun (V : World) hV => zpe k hk cv ci hv ZA zs zc V hV hzw (by omega)
 rw [zrc k hk cv ci hv zs hzl] at kE
 rw [zrd k hk (cv, ci) hv zs hzl] at kD
 unfold REncC at kE
 unfold RDecN at kD
 have HPL := K.pl
 have hdl := Sb.encS_len k (cv, ci) zs hk hv hzl
 rw [hpl] at HPL
 generalize Sb.enc k (cv, ci) zs = EE at *
 obtain ⟨bs, es1, es2⟩ := EE
 simp only at kE kD HPL hdl hpl h
 obtain ⟨ds, hds⟩ : ∃ ds, ds = Sb.decS k bs := ⟨_, rfl⟩
 rw [← hds] at kD hdl h
 rw [hzl] at kE
 replace kE := H9 kE
 replace kD := H9 kD
 replace HPL := H9 HPL
 have hES := X.m.lt
 have hdl2 := H9 hdl
 have HP0 := H9 hpl
 have s0 := X.bc.at 0 _ rfl
 have s1 := X.bc.at 1 _ rfl
 clear hty hpl hds hdl hpb
 refine zbe ?_
 intro _ _ _ _
 go_upto_region 30 with fail
 go_wp2_with fail
 refine (kE.out _ K.z.1).mono ?_
 rintro e w2 ⟨A2, c2', rfl, hcc, hI, hb⟩
 replace X := X.later hb
 have hgcW := Blk.lt X.bc
 replace X := X.push (.cells #[.int .i64 es1, .int .i64 es2] 24)
 replace K := (K.later hb).later ((Below.refl _ _).alloc (Nat.le_refl _) (.cells #[.int .i64 es1, .int .i64 es2] 24))
 replace HPL := H9 ((HPL.out.chg (T := []) (Chg.of_below hb) (by simp)).chg (T := []) (Chg.alloc _ _ (.cells #[.int .i64 es1, .int .i64 es2] 24)) (by simp))
 have HI := H9 (hI.push (.cells #[.int .i64 es1, .int .i64 es2] 24))
 have BH := H9 (Blk.new w2 24 #[.int .i64 es1, .int .i64 es2])
 obtain ⟨g4, hg4⟩ : ∃ g, g = w2.heap.size := ⟨_, rfl⟩
 obtain ⟨W3, hW3⟩ : ∃ V, V = w2.alloc (Obj.cells #[.int .i64 es1, .int .i64 es2] 24) := ⟨_, rfl⟩
 rw [← hg4, ← hW3] at BH
 clear hb hI s0 s1 kE
 go_upto_region 31 with fail
 rw [← hg4] at hgcW ⊢
 rw [← hW3] at X K HPL HI ⊢
 clear hW3 hg4
 go_wp2_with fail
 refine (kD.out _ A2 c2' HI.out hcc).mono ?_
 rintro e w4 ⟨A4, c4, rfl, hI4, hb4⟩
 have HS4 := H9 (IntsAv.of_new hI4 X.m.lt)
 replace X := X.later hb4
 replace K := K.later hb4
 replace HPL := H9 (HPL.out.chg (T := []) (Chg.of_below hb4) (by simp))
 replace HI := H9 (HI.out.later hb4)
 replace BH := H9 (BH.out.later hb4)
 clear hb4 hI4 kD x1
 have hv1 := zbl HI.out 22 9 5 Tryz.underlying22 Tryz.underlying5 Tryz.underlying9 _ c2' rfl
 have hv2 := zbl HPL.out.1 22 9 5 Tryz.underlying22 Tryz.underlying5 Tryz.underlying9 _ t.c rfl
 have x9 := K.cell 9 (.slice t.B t.k.pl.length t.c) rfl
 rw [HP0.out] at x9
 go_upto_region 32 with fail
 refine wp_region_held_drew (S := fun w' => Below w4.heap.size w4 w') (by kernel_rfl) (Below.drew (Below.refl _ _)) (fun qH => ?_)
 obtain ⟨X9, hX9⟩ : ∃ V, V = w4.drew := ⟨_, rfl⟩
 rw [← hX9] at qH ⊢
 clear hX9 hv1 hv2
 refine tk1 (i := 0) (v := ?_) rfl (Or.inl ⟨by rfl, ?_⟩) qH ?_ (hQ := q9 hQp)
 rotate_left
 · (intro w hSw; clear hSw; go_simp; try with_reducible rfl)
 try simp only [ss9]
 refine tk1 (i := 1) (v := ?_) rfl (Or.inl ⟨by rfl, ?_⟩) qH ?_ (hQ := q9 hQp)
 rotate_left
 · (intro w hSw; clear hSw; go_simp; try with_reducible rfl)
 try simp only [ss9]
 refine tk1 (i := 2) (v := ?_) rfl (Or.inl ⟨by rfl, ?_⟩) qH ?_ (hQ := q9 hQp)
 rotate_left
 · (intro w hSw; clear hSw; go_simp; try with_reducible rfl)
 try simp only [ss9]
 refine tk1 (i := 3) (v := ?_) rfl (Or.inl ⟨by rfl, ?_⟩) qH ?_ (hQ := q9 hQp)
 rotate_left
 · (intro w hSw; clear hSw; go_simp; try with_reducible rfl)
 try simp only [ss9]
 refine tk1 (i := 4) (v := ?_) rfl (Or.inl ⟨by rfl, ?_⟩) qH ?_ (hQ := q9 hQp)
 rotate_left
 · (intro w hSw; clear hSw; go_simp; try with_reducible rfl)
 try simp only [ss9]
 refine tk1 (i := 5) (v := ?_) rfl (Or.inl ⟨by rfl, ?_⟩) qH ?_ (hQ := q9 hQp)
 rotate_left
 · (intro w hSw; clear hSw; go_simp; try with_reducible rfl)
 try simp only [ss9]
 refine tk1 (i := 6) (v := ?_) rfl (Or.inl ⟨by rfl, ?_⟩) qH ?_ (hQ := q9 hQp)
 rotate_left
 · (intro w hSw; clear hSw; go_simp; try with_reducible rfl)
 try simp only [ss9]
 refine tk1 (i := 7) (v := ?_) rfl (Or.inl ⟨by rfl, ?_⟩) qH ?_ (hQ := q9 hQp)
 rotate_left
 · (intro w hSw; clear hSw; go_simp; try with_reducible rfl)
 try simp only [ss9]
 refine tk1 (i := 8) (v := ?_) rfl (Or.inl ⟨by rfl, ?_⟩) qH ?_ (hQ := q9 hQp)
 rotate_left
 · (intro w hSw; have y := zbl (P := Tryz.prog) (HI.out.later hSw) 22 9 5 Tryz.underlying22 Tryz.underlying5 Tryz.underlying9 bs.length c2' rfl; clear hSw; go_simp; try with_reducible rfl)
 try simp only [ss9]
 refine tk1 (i := 9) (v := ?_) rfl (Or.inl ⟨by rfl, ?_⟩) qH ?_ (hQ := q9 hQp)
 rotate_left
 · (intro w hSw; clear hSw; go_simp; try with_reducible rfl)
 try simp only [ss9]
 refine tk1 (i := 10) (v := ?_) rfl (Or.inl ⟨by rfl, ?_⟩) qH ?_ (hQ := q9 hQp)
 rotate_left
 · (intro w hSw; clear hSw; go_simp; try with_reducible rfl)
 try simp only [ss9]
 refine tk1 (i := 11) (v := ?_) rfl (Or.inl ⟨by rfl, ?_⟩) qH ?_ (hQ := q9 hQp)
 rotate_left
 · (intro w hSw; clear hSw; go_simp; try with_reducible rfl)
 try simp only [ss9]
 refine tk1 (i := 12) (v := ?_) rfl (Or.inl ⟨by rfl, ?_⟩) qH ?_ (hQ := q9 hQp)
 rotate_left
 · (intro w hSw; have y := zai hSw x9; clear hSw; go_simp; try with_reducible rfl)
 try simp only [ss9]
 refine tk1 (i := 13) (v := ?_) rfl (Or.inl ⟨by rfl, ?_⟩) qH ?_ (hQ := q9 hQp)
 rotate_left
 · (intro w hSw; have y := zbl (P := Tryz.prog) (HPL.out.1.later hSw) 22 9 5 Tryz.underlying22 Tryz.underlying5 Tryz.underlying9 bs.length t.c rfl; clear hSw; go_simp; try with_reducible rfl)
 try simp only [ss9]
 refine tk1 (i := 14) (v := ?_) rfl (Or.inl ⟨by rfl, ?_⟩) qH ?_ (hQ := q9 hQp)
 rotate_left
 · (intro w hSw; clear hSw; go_simp; try with_reducible rfl)
 try simp only [ss9]
 refine tk1 (i := 15) (v := ?_) rfl (Or.inl ⟨by rfl, ?_⟩) qH ?_ (hQ := q9 hQp)
 rotate_left
 · (intro w hSw; clear hSw; go_simp; try with_reducible rfl)
 try simp only [ss9]
 refine wpAnyH_done (by kernel_rfl) ?_ _
 replace X := X.later qH
 replace K := K.later qH
 replace HPL := H9 (HPL.out.chg (T := []) (Chg.of_below qH) (by simp))
 replace BH := H9 (BH.out.later qH)
 replace HS4 := H9 (HS4.out.chg (T := []) (Chg.of_below qH) (by simp))
 clear qH x9 HI
 show Exit.then _ _ Exit.normal _ _
 go_upto_region 34 with fail
 go_upto_region 35 with (first | (refine zae rfl 24 (.tmp 30) rfl (g4) 0 rfl 24 ([.int .i64 es1, .int .i64 es2]) BH.out 2 _ Tryz.underlying24 zem (show 0 + 2 ≤ 2 by decide) (#[.int .i64 es1, .int .i64 es2]) (by rfl) rfl ?_) | (refine zaf rfl 24 (.tmp 16) (.tmp 172) rfl (gc) 0 rfl 24 ([.int .i64 cv, .int .i64 ci]) X.bc ([.int .i64 es1, .int .i64 es2]) rfl zem (show 0 + 2 ≤ 2 by decide) rfl ([.int .i64 es1, .int .i64 es2]) rfl ?_; intro WJ BJ OJ) | fail)
 replace X := X.boxC OJ BJ
 have hcj := Chg.of_only OJ (S := [gc]) (by simp)
 have hgS : ∀ x ∈ [gc], x ∈ ES [ga, gu, gc] WA GA := by intro x hx; simp at hx; rw [hx]; exact zbs.2 (.inl (by simp))
 replace K := K.chg hcj hgS
 replace HS4 := H9 (HS4.out.chg hcj hgS)
 clear hcj BJ OJ BH HPL
 have x5 := X.b5.at 0 _ rfl
 have h5 : (wl.length + 1) * 56 ≤ 140737488355328 := by omega
 have h6 : wl.length + 1 ≤ maxLen := by unfold maxLen; omega
 go_upto_region 38 with (at_builtin; go_loud (refine zax (w0 := WJ) rfl _ _ 54 rfl M 86 3 56 _ Tryz.underlying54 zcr rfl (by decide) WA wl.length wc _ rfl X.m.wown [.int .i64 (20 * (i : Int) + trip + ls), .slice A4 ds.length c4, .slice none 0 0] rfl (by simp [Value.oneCell']) rfl h6 h5 X.lt ?_); intro A9 c9 v1 qo hgr hat)
 clear x5
 have X2 := X.want ⟨⟨20 * (i : Int) + trip + ls, ds, []⟩, A4, c4⟩ hgr qo hat HS4.out
 have K2 := K.want hgr hat
 clear hgr qo hat
 refine zbp (by assumption) ?_
 refine h _ _ _ _ _ _ X2 K2 ?_
 exact Fr.mk rfl ⟨rfl, rfl, rfl, rfl, rfl, rfl, rfl, rfl, by simp only [List.length_append]; rfl, rfl, rfl, rfl, rfl, rfl, rfl, trivial⟩
theorem QAv.of_in {W : World} {lo : Nat} {S : List Nat} {A : Option Addr} {l : List TW} (h : WtsIn W lo W.heap.size A l) (hs : ∀ x ∈ S, x < lo) : QAv W S A l :=
 ⟨h.rows, fun h0 b off e hb => by have h1 := h.low h0 b off e; have h2 := hs b hb; omega, fun a ha h0 b off e hb => by have h1 := h.plow a ha h0 b off e; have h2 := hs b hb; omega⟩
theorem zpg {w W : World} {g5 ga gu gc M : Nat} {k ls mo trip : Int} {p u : Sb.Pt} {A1 : Option Addr} {c1 : Nat} {A2 : Option Addr} {n2 c2 : Nat} {l2 : List TW} {cv ci : Int} {WA : Option Addr} {wc : Nat} {wl : List TS} {GA : Option Addr} {gk : Nat} {gl : List TY} {i sq : Nat} {hi : Int} {f pr : Nat} {bL oL nL cL : Nat} {Q : Exit → Act → World → Prop} {zs : List Int} {ZA : Option Addr} {KA : Option Addr} {kc : Nat} {t : TK} {u' : Sb.Pt} {sds : List Sb.Sd} (X : EV w W g5 ga gu gc M ls mo p u A1 c1 A2 n2 c2 l2 cv ci WA wc wl GA gk gl) (K : EK W (ES [ga, gu, gc] WA GA) ZA zs KA t) (hgl : gl.length ≤ 200) (hsl : sds.length ≤ 200) (hQp : ∀ (ch : _) (a : Act) (d : Tmp) (u : Value) (w : World), Q (.panic ch) (a.put (some d) u) w → Q (.panic ch) a w)
 (kR : ∀ V : World, Below W.heap.size W V → Calls Tryz.prog 11 #[.agg (PA u A2 n2 c2), .int .i64 (20 * (i : Int) + trip), .agg (pktRow t.k t.B t.c).toArray] V (RecvK (u', 1, sds, 0) V))
 (h : ∀ (W : World) (a : Act) (A2 : Option Addr) (n2 c2 : Nat) (l2 : List TW) (GA : Option Addr) (gk : Nat) (ls' : List TY), ls'.map TY.s = sds → EV w W g5 ga gu gc M ls mo p u' A1 c1 A2 n2 c2 l2 cv ci WA wc wl GA gk (gl ++ ls') → Fr 325 (EF k ls trip (some ⟨bL, oL, none⟩) nL cL g5 ga gu gc WA wl.length wc GA (gl ++ ls').length gk (pr : Int) (i : Int)) a → Q .normal a W) (a : Act) (ha : Fr 325 ((26, .slice KA 1 kc) :: (28, .int .i64 (20 * (i : Int) + trip)) :: EF k ls trip (some ⟨bL, oL, none⟩) nL cL g5 ga gu gc WA wl.length wc GA gl.length gk (pr : Int) (i : Int)) a) : firstWp Tryz.prog enD_code Q a W := by
 obtain ⟨s, rfl, hs⟩ := ha
 rw [r325]
 obtain ⟨e26, e28, e2, e3, e5, e9, e10, e12, e13, e14, e15, e16, e17, e18, e19, _⟩ := hs
 obtain ⟨bK, oK, rfl⟩ := K.form
 rw [e12, e14, e26, e28]
 have z0 := K.cell 0 (.bool t.k.mrk) rfl
 have z1 := K.cell 1 (.int .u8 t.k.ty) rfl
 have z2 := K.cell 2 (.int .u16 t.k.sq) rfl
 have z3 := K.cell 3 (.int .u32 t.k.ti) rfl
 have z4 := K.cell 4 (.int .u32 t.k.src) rfl
 have z5 := K.cell 5 (.slice none 0 0) rfl
 have z6 := K.cell 6 (.bool false) rfl
 have z7 := K.cell 7 (.int .u16 0) rfl
 have z8 := K.cell 8 (.slice none 0 0) rfl
 have z9 := K.cell 9 (.slice t.B t.k.pl.length t.c) rfl
 have z10 := K.cell 10 (.int .i64 0) rfl
 have hES := X.m.lt
 have XMS := H9 X.m.ms
 refine zct ?_
 intro _ _
 refine zsl gu bK oK kc t.k t.B t.c (20 * (i : Int) + trip) u A2 n2 c2 (u', 1, sds, 0) W X.bu z0 z1 z2 z3 z4 z5 z6 z7 z8 z9 z10 kR ?_ ?_
 · intro _ _ _ _ _ h; exact hQp _ _ _ _ _ h
 clear z0 z1 z2 z3 z4 z5 z6 z7 z8 z9 z10 kR
 intro wx g3 SA sc m A' n' c' l' ls' u195 u196 u197 u198 u199 u200 u201 u202 u203 u204 u205 HB3 HQ3 hn3 hc3 hm3 HW3 HLS hlm HSK hg3 HBL
 simp only at HB3 HQ3 HLS ⊢
 subst hlm
 replace X := X.later HBL.out
 have hguW : gu < g3 := Nat.lt_of_lt_of_le (Nat.lt_of_lt_of_le (show gu < M by have := X.o4; have := X.o5; omega) (show M ≤ W.heap.size from XMS.out)) hg3
 have hSL : ls'.length ≤ 200 := by have h9 := congrArg List.length HLS.out; rw [List.length_map] at h9; omega
 have HP := H9 (show ∀ a ∈ ls', IntsAv wx (ES [ga, gu, gc] WA GA) .i16 a.S a.s.zs from fun a ha => ⟨(HSK.out.pay a ha).1, fun h0 b off e hb => by have h1 := (HSK.out.pay a ha).2 h0 b off e; have h2 := hES b hb; omega⟩)
 have HKY := H9 (show ∀ a ∈ ls', RowsAv wx (ES [ga, gu, gc] WA GA) 4 Ev.Key.row a.K a.s.ks from fun a ha => ⟨(HSK.out.keys a ha).1, fun h0 b off e hb => by have h1 := (HSK.out.keys a ha).2 h0 b off e; have h2 := hES b hb; omega⟩)
 have HRW := H9 (show RowsAv wx (ES [ga, gu, gc] WA GA) 3 TY.row SA ls' from ⟨HSK.out.rows, fun h0 b off e hb => by have h1 := HSK.out.low h0 b off e; have h2 := hES b hb; omega⟩)
 have HQA := H9 (QAv.of_in HW3.out hES)
 clear HBL HSK HW3
 go_upto_region 41 with fail
 go_upto_region 42 with (first | (refine zae rfl 48 (.tmp 34) rfl (g3) 0 rfl 48 (PL u' A' n' c') HB3.out 48 _ Tryz.underlying48 zag (show 0 + 48 ≤ 48 by decide) (PA u' A' n' c') (by rfl) rfl ?_) | (refine zaf rfl 48 (.tmp 12) (.tmp 212) rfl (gu) 0 rfl 48 (PL u A2 n2 c2) X.bu (PL u' A' n' c') rfl zag (show 0 + 48 ≤ 48 by decide) rfl (PL u' A' n' c') rfl ?_; intro WF BF OF) | fail)
 have hcj := Chg.of_only OF (S := [gu]) (by simp)
 have hgS : ∀ x ∈ [gu], x ∈ ES [ga, gu, gc] WA GA := by intro x hx; simp at hx; rw [hx]; exact zbs.2 (.inl (by simp))
 replace X := X.boxU OF BF HQA.out HQ3.out hn3 hc3 hm3
 replace HP := H9 (show ∀ a ∈ ls', IntsAv WF (ES [ga, gu, gc] WA GA) .i16 a.S a.s.zs from fun a ha => (HP.out a ha).chg hcj hgS)
 replace HKY := H9 (show ∀ a ∈ ls', RowsAv WF (ES [ga, gu, gc] WA GA) 4 Ev.Key.row a.K a.s.ks from fun a ha => (HKY.out a ha).chg hcj hgS)
 replace HRW := H9 (HRW.out.chg hcj hgS)
 clear BF OF hcj HB3 HQA
 go_wp2_with (at_builtin; go_loud (refine zbu rfl _ _ 54 rfl M 86 3 56 _ Tryz.underlying54 zcr rfl (by decide) GA gl.length gk _ rfl X.m.gown WF.heap.size TY.row TY.rowlen TY.one SA ls'.length sc ls' rfl HRW.out.1 rfl (by unfold maxLen; omega) (by omega) X.lt (gl.length + ls'.length) rfl ?_); intro A9 c9 v1 qo hgr hat)
 have X2 := X.got hgr qo hat HP.out HKY.out
 refine h _ _ _ _ _ _ _ _ ls' HLS.out X2 ?_
 exact Fr.mk rfl ⟨rfl, rfl, rfl, rfl, rfl, rfl, rfl, by simp only [List.length_append]; rfl, rfl, rfl, rfl, rfl, rfl, trivial⟩
theorem zph (c : Int) (f : Bool) (v d : Int) (v0 : 0 ≤ v) (v1 : v ≤ 63) (d0 : 0 ≤ d) (d1 : d ≤ 65535) : Ev.decT [c, v + (if f then 128 else 0), d / 256, d % 256] = (⟨c, f, v, d⟩, 0) := by
 have a1 : decide ((128 : Int) ≤ v + (if f = true then 128 else 0)) = f := by
  cases f
  · exact decide_eq_false (by rw [if_neg (by simp)]; omega)
  · exact decide_eq_true (by rw [if_pos rfl]; omega)
 have a2 : (v + (if f = true then 128 else 0)) % 64 = v := by split <;> omega
 have a3 : 256 * (d / 256) + d % 256 = d := by omega
 have a4 : ¬(v + (if f = true then 128 else 0)) / 64 % 2 = 1 := by split <;> omega
 unfold Ev.decT
 rw [if_neg (by simp)]
 simp only [List.getD_cons_zero, List.getD_cons_succ]
 rw [if_neg (by rintro (h | h); simp at h; exact a4 h), a1, a2, a3]
theorem zre (c : Int) (f : Bool) (v d : Int) (v0 : 0 ≤ v) (v1 : v ≤ 63) (d0 : 0 ≤ d) (d1 : d ≤ 65535) : Ev.decT (Ev.encT c f v d).1 = (⟨c, f, v, d⟩, 0) := by
 unfold Ev.encT
 rw [if_neg (by omega)]
 exact zph c f v d v0 v1 d0 d1
theorem zna (c : Int) (f : Bool) (v d : Int) (c0 : 0 ≤ c) (c1 : c ≤ 255) (v0 : 0 ≤ v) (v1 : v ≤ 63) (d0 : 0 ≤ d) (d1 : d ≤ 65535) : (∀ z ∈ (Ev.encT c f v d).1, 0 ≤ z ∧ z ≤ 255) ∧ (Ev.encT c f v d).1.length = 4 := by
 unfold Ev.encT
 rw [if_neg (by omega)]
 refine ⟨fun z hz => ?_, rfl⟩
 simp only [List.mem_cons, List.not_mem_nil, or_false] at hz
 rcases hz with rfl | rfl | rfl | rfl
 · exact ⟨c0, c1⟩
 · cases f <;> simp <;> omega
 · omega
 · omega
theorem zrf {s : Ev.Snd} (hv : s.valid = true) (ht : s.on = true ∨ s.ends ≠ 0) : (Ev.next s 160).o.tone.code = s.code ∧ (Ev.next s 160).o.time = s.start := by
 cases ho : s.on
 · have he : s.ends ≠ 0 := by rcases ht with h | h; rw [ho] at h; cases h; exact h
   rw [Sb.next_off hv ho he]; exact ⟨rfl, rfl⟩
 · rw [Sb.next_on hv ho]; exact ⟨rfl, rfl⟩
theorem zkd {w W : World} {g5 ga gu gc M : Nat} {k ls mo trip : Int} {p u : Sb.Pt} {A1 : Option Addr} {c1 : Nat} {A2 : Option Addr} {n2 c2 : Nat} {l2 : List TW} {cv ci : Int} {WA : Option Addr} {wc : Nat} {wl : List TS} {GA : Option Addr} {gk : Nat} {gl : List TY} {i sq : Nat} {hi : Int} {f pr : Nat} {p' : Sb.Pt} {cv' ci' : Int} {u' : Sb.Pt} {sds : List Sb.Sd} {want got : List Sb.Sd} {zs : List Int} {ZA : Option Addr} {KA : Option Addr} {t : TK} (X : EV w W g5 ga gu gc M ls mo p' u A1 c1 A2 n2 c2 l2 cv ci WA wc wl GA gk gl) (E : Sb.EP k ls mo trip p u i sq hi f pr cv' ci' want got) (i40 : i < 40) (t0 : 0 ≤ trip) (t1 : trip ≤ 65535) (K : EK W (ES [ga, gu, gc] WA GA) ZA zs KA t) (y0 : 0 ≤ t.k.ty) (y1 : t.k.ty ≤ 255) (q0 : t.k.sq = (sq : Int)) (r0 : 0 ≤ t.k.ti) (r1 : t.k.ti ≤ 4294967295) (hp : t.k.pl.length ≤ 1500) (hb : Within 0 255 t.k.pl)
 (hr : Sb.recv0 u (20 * (i : Int) + trip) ⟨t.k.mrk, t.k.ty, t.k.sq, t.k.ti, t.k.pl⟩ = (u', 1, sds)) (V : World) (hV : Below W.heap.size W V) : Calls Tryz.prog 11 #[.agg (PA u A2 n2 c2), .int .i64 (20 * (i : Int) + trip), .agg (pktRow t.k t.B t.c).toArray] V (RecvK (u', 1, sds, 0) V) := by
 have h1 := E.sp.le
 have h2 := E.li.hl
 have hql := E.gle
 have hlq : n2 ≤ 80 := by have h9 := congrArg List.length X.hq; rw [List.length_map, X.hn] at h9; omega
 have C : RC V u A2 l2 n2 c2 ⟨t.k.mrk, t.k.ty, t.k.sq, t.k.ti, t.k.src, none, 0, 0, false, 0, none, 0, 0, t.B, t.k.pl, t.c, 0⟩ (20 * (i : Int) + trip) :=
  ⟨X.hq, X.hn, by omega, X.hc, X.hm, X.m.q.wts.later hV, fun a ha => zrp E.li.jt.sm.ok a.w (by rw [← X.hq]; exact List.mem_map_of_mem ha), E.ok, E.li.wf.seed.1, E.li.wf.seed.2, y0, y1, by show 0 ≤ t.k.sq; omega, by show t.k.sq ≤ 65535; omega, r0, r1, hp, K.pl.1.later hV, by omega, by omega⟩
 have h := zmo C E.li.wf rfl (E.li.chk (by omega) _ (by omega) (by omega)) hb (by omega) (by omega)
 have e : (Sb.recv0 u (20 * (i : Int) + trip) (Rx.arr ⟨t.k.mrk, t.k.ty, t.k.sq, t.k.ti, t.k.src, none, 0, 0, false, 0, none, 0, 0, t.B, t.k.pl, t.c, 0⟩)) = (u', 1, sds) := hr
 rw [e] at h
 exact h
theorem zuj {w W : World} {g5 ga gu gc M : Nat} {k ls mo trip : Int} {p u : Sb.Pt} {A1 : Option Addr} {c1 : Nat} {A2 : Option Addr} {n2 c2 : Nat} {l2 : List TW} {cv ci : Int} {WA : Option Addr} {wc : Nat} {wl : List TS} {GA : Option Addr} {gk : Nat} {gl : List TY} {i sq : Nat} {hi : Int} {f pr : Nat} {bL oL nL cL : Nat} {Q : Exit → Act → World → Prop} (X : EV w W g5 ga gu gc M ls mo p u A1 c1 A2 n2 c2 l2 cv ci WA wc wl GA gk gl) (E : Sb.EP k ls mo trip p u (i) (sq) (hi) 0 (pr) cv ci (wl.map TS.s) (gl.map TY.s)) (hiL : i < nL) (i40 : i < 40) (t0 : 0 ≤ trip) (t1 : trip ≤ 65535) (hc : Jb.cfg ls mo) (hLb : bL < w.heap.size) (loud : Int) (y0 : 0 ≤ loud) (y1 : loud ≤ 65535) (z0 : w.cell? ⟨bL, oL + i * 5, none⟩ = some (.int .u16 loud)) (key cd : Int) (x0 : 0 ≤ key) (x1 : 0 ≤ cd) (z1 : w.cell? ⟨bL, oL + i * 5 + 1, none⟩ = some (.int .u8 key)) (z2 : w.cell? ⟨bL, oL + i * 5 + 2, none⟩ = some (.int .u8 cd)) (hQp : ∀ (ch : _) (a : Act) (d : Tmp) (u : Value) (w : World), Q (.panic ch) (a.put (some d) u) w → Q (.panic ch) a w)
 (hQ : ∀ (W : World) (a : Act) (p u : Sb.Pt) (A1 : Option Addr) (c1 : Nat) (A2 : Option Addr) (n2 c2 : Nat) (l2 : List TW) (cv ci : Int) (WA : Option Addr) (wc : Nat) (wl : List TS) (GA : Option Addr) (gk : Nat) (gl : List TY) (sq : Nat) (hi : Int) (pr : Nat) (ex : Exit), (ex = .exit 1 ∨ ex = .normal) → EV w W g5 ga gu gc M ls mo p u A1 c1 A2 n2 c2 l2 cv ci WA wc wl GA gk gl → Sb.EP k ls mo trip p u (i + 1) (sq) (hi) 0 (pr) cv ci (wl.map TS.s) (gl.map TY.s) → Fr 325 (EF k ls trip (some ⟨bL, oL, none⟩) nL cL g5 ga gu gc WA wl.length wc GA gl.length gk (pr : Int) (i : Int)) a → Q ex a W) (a : Act) (ha : Fr 325 (EF k ls trip (some ⟨bL, oL, none⟩) nL cL g5 ga gu gc WA wl.length wc GA gl.length gk (pr : Int) (i : Int)) a) : firstWp Tryz.prog enA_code Q a W := by
 refine zuf (f := 0) X E hiL i40 hLb key cd x0 x1 z1 z2 hQp (fun W a p A1 c1 f pr X E ha => ?_) a ha
 refine zug X E hiL i40 t0 t1 hLb loud y0 y1 z0 (fun W a p A1 c1 X E ha => hQ _ _ _ _ _ _ _ _ _ _ _ _ _ _ _ _ _ _ _ _ _ (.exit 1) (.inl rfl) X E ha) (fun W a q A1 c1 zs ZA zc KA kc t X hS2 hS3 hzl hzw K ha => ?_) a ha
 have hle := E.sp.le
 have hwl : wl.length ≤ 40 := by have h9 := E.wle; rw [List.length_map] at h9; omega
 have hgl : gl.length ≤ 200 := by have h9 := E.gle; rw [List.length_map] at h9; omega
 have hcv := E.c1
 have hci := E.c2
 subst hcv hci
 have hk := E.sp.sp
 have hcod := E.sp.cod
 cases hS3 with
 | tone _ h0 h1 h2 h3 h4 h5 h6 =>
   obtain ⟨n1, n2', n3, n4⟩ := Sb.next_some p.tn E.sp.tv h0 E.sp.t1.1
   obtain ⟨n5, n6⟩ := zrf E.sp.tv h0
   obtain ⟨b1, b2⟩ := zna (Ev.next p.tn 160).o.tone.code (Ev.next p.tn 160).o.tone.fin (Ev.next p.tn 160).o.tone.vol (Ev.next p.tn 160).o.tone.dur (by rw [n5]; exact E.sp.t2.1) (by rw [n5]; exact E.sp.t2.2) n3.1 n3.2 n4.1 n4.2
   obtain ⟨u', sds, hr, E2⟩ := E.tone i40 t0 t1 q hS2 h0 h1 h2 ⟨t.k.mrk, t.k.ty, t.k.sq, t.k.ti, t.k.pl⟩ h3 h5 h4 (by show Ev.decT t.k.pl = _; rw [h6]; exact zre _ _ _ _ n3.1 n3.2 n4.1 n4.2) n4
   have hsl : sds.length ≤ 200 := by have h9 := E2.gle; rw [List.length_append, List.length_map] at h9; omega
   refine ztc (f := 0) (sq := 0) (hi := 0) hk i40 t0 t1 hc.1 (Int.le_trans hc.2.1 hc.2.2) hwl K X h4 (fun W a X K ha => ?_) a ha
   refine zpg (f := 0) (sq := 0) (hi := 0) X K hgl hsl hQp (fun V hV => zkd X E i40 t0 t1 K (by omega) (by omega) h3 (by rw [h5, n6]; exact E.sp.t3.1) (by rw [h5, n6]; exact E.sp.t3.2) (by rw [h6, b2]; omega) (by rw [h6]; exact b1) hr V hV) (fun W a A2 n2 c2 l2 GA gk ls' hls X ha => ?_) a ha
   exact hQ _ _ _ _ _ _ _ _ _ _ _ _ _ _ _ _ _ _ _ _ _ .normal (.inr rfl) X (by rw [List.map_append, hls]; exact E2) ha
 | noise _ h0 h1 h2 h3 h4 h5 h6 =>
   obtain ⟨z, h6, hz0, hz1⟩ := h6
   have hpb : Within 0 255 t.k.pl := by rw [h6]; intro x hx; obtain rfl := List.mem_singleton.1 hx; exact ⟨hz0, hz1⟩
   have hpl : t.k.pl.length = 1 := by rw [h6]; rfl
   obtain ⟨u', sds, hr, E2⟩ := E.media i40 hc t0 t1 q hS2 h0 h1 ⟨t.k.mrk, t.k.ty, t.k.sq, t.k.ti, t.k.pl⟩ h3 h5 (.inr h4) (by show t.k.pl.length ≤ 1500; omega) hpb ⟨20 * (i : Int) + trip + ls, [], []⟩ ⟨rfl, .inr ⟨h4, hpl, rfl⟩⟩
   rw [h2.1, h2.2] at E2
   have hsl : sds.length ≤ 200 := by have h9 := E2.gle; rw [List.length_append, List.length_map] at h9; omega
   refine ztd (f := 0) (sq := 0) (hi := 0) hk i40 t0 t1 hc.1 (Int.le_trans hc.2.1 hc.2.2) hwl K X h4 (fun W a A9 c9 X K ha => ?_) a ha
   refine zpg (f := 0) (sq := 0) (hi := 0) X K hgl hsl hQp (fun V hV => zkd X E i40 t0 t1 K (by omega) (by omega) h3 (by omega) (by omega) (by omega) hpb hr V hV) (fun W a A2 n2 c2 l2 GA gk ls' hls X ha => ?_) a ha
   exact hQ _ _ _ _ _ _ _ _ _ _ _ _ _ _ _ _ _ _ _ _ _ .normal (.inr rfl) X (by rw [List.map_append, List.map_append, hls]; exact E2) ha
 | speech _ h0 h1 h2 h3 h4 h5 h6 =>
   have hen := Sb.enc_in k (p.cv, p.ci) zs hcod hzl
   have hpb : Within 0 255 t.k.pl := by rw [h6]; exact hen.1
   have hpl : t.k.pl.length ≤ 1500 := by rw [h6]; have := hen.2.1; omega
   have hkb := Sb.sp_bd hk
   obtain ⟨u', sds, hr, E2⟩ := E.media i40 hc t0 t1 q hS2 h0 h1 ⟨t.k.mrk, t.k.ty, t.k.sq, t.k.ti, t.k.pl⟩ h3 h5 (.inl (by show speechB t.k.ty = true; rw [h4]; exact hk)) hpl hpb ⟨20 * (i : Int) + trip + ls, Sb.decS k (Sb.enc k (p.cv, p.ci) zs).1, []⟩ ⟨rfl, .inl ⟨by show speechB t.k.ty = true; rw [h4]; exact hk, by show _ = Sb.decS t.k.ty t.k.pl; rw [h4, h6], Sb.encS_len k (p.cv, p.ci) zs hk hcod hzl⟩⟩
   rw [h2.1, h2.2] at E2
   have hsl : sds.length ≤ 200 := by have h9 := E2.gle; rw [List.length_append, List.length_map] at h9; omega
   refine zte (f := 0) (sq := 0) (hi := 0) hk i40 t0 t1 hc.1 (Int.le_trans hc.2.1 hc.2.2) hwl K X hQp hcod hzl hzw h6 h4 (fun W a A9 c9 A4 c4 X K ha => ?_) a ha
   refine zpg (f := 0) (sq := 0) (hi := 0) X K hgl hsl hQp (fun V hV => zkd X E i40 t0 t1 K (by omega) (by omega) h3 (by omega) (by omega) hpl hpb hr V hV) (fun W a A2 n2 c2 l2 GA gk ls' hls X ha => ?_) a ha
   exact hQ _ _ _ _ _ _ _ _ _ _ _ _ _ _ _ _ _ _ _ _ _ .normal (.inr rfl) X (by rw [List.map_append, List.map_append, hls]; exact E2) ha
noncomputable def enG_code : Code := ((Tryz.f6.body.bind (fromReg 58)).getD .skip)
theorem zuk {w wr : World} {WA KA : Option Addr} {wn wc kc pr : Nat} {kl : List Ev.Key} (RK : RowsAt wr wr.heap.size 4 Ev.Key.row KA kl) (U : Bel w wr) (hd : Sb.downs kl = pr) (hkl : kl.length ≤ 120) (a : Act) (ha : Fr 325 [(13, .slice WA wn wc), (15, .slice KA kl.length kc), (17, .int .i64 (pr : Int)), (18, .int .i64 (0 : Int)), (41, .int .i64 (wn : Int))] a) : firstWp Tryz.prog enG_code (bodyPost Tryz.prog Tryz.f6 (fun e w' => e = .returned (.bool true) ∧ Below w.heap.size w w')) a wr := by
 obtain ⟨s, rfl, hs⟩ := ha
 rw [r325]
 obtain ⟨e13, e15, e17, e18, e41, _⟩ := hs
 rw [e13, e15, e17, e18, e41]
 clear e13 e15 e17 e18 e41
 have HD := H9 hd
 have hdl : ∀ l : List Ev.Key, Sb.downs l ≤ l.length := fun l => by unfold Sb.downs; exact List.length_filter_le _ _
 clear hd
 refine zbe ?_
 intro _ _ _ _
 go_wp2_with fail
 refine wp_loop_rounds (kl.length + 1) (zep (fun n a w' => w' = wr ∧ ∃ j : Nat, n + j = kl.length ∧ Fr 325 [(13, .slice WA wn wc), (15, .slice KA kl.length kc), (17, .int .i64 (pr : Int)), (18, .int .i64 (Sb.downs (kl.take j) : Int)), (41, .int .i64 (wn : Int)), (43, .int .i64 (j : Int))] a) (fun n a w' hJ => ?_) kl.length _ _ ⟨rfl, 0, rfl, Fr.mk rfl ⟨rfl, rfl, rfl, rfl, rfl, rfl, trivial⟩⟩)
 obtain ⟨rfl, j, hn, ha⟩ := hJ
 obtain ⟨s, rfl, hs⟩ := ha
 rw [r325]
 obtain ⟨e13, e15, e17, e18, e41, e43, _⟩ := hs
 rw [e13, e15, e17, e18, e41, e43]
 clear e13 e15 e17 e18 e41 e43
 have hj0 : (0 : Int) ≤ (j : Int) := by omega
 by_cases hj : j < kl.length
 rotate_left
 · obtain rfl : j = kl.length := by omega
   have hlt : ¬(kl.length : Int) < (kl.length : Int) := by omega
   rw [List.take_length, HD.out]
   go_wp2_with fail
   refine (zij _).mono ?_
   rintro e wv ⟨rfl, hbv⟩
   have UF := U.later hbv
   go_wp2_with fail
   go_ret
   exact ⟨rfl, UF⟩
 have hj1 : (j : Int) < (kl.length : Int) := by omega
 obtain ⟨x, hx⟩ : ∃ x, kl[j]? = some x := ⟨_, List.getElem?_eq_getElem hj⟩
 obtain ⟨bK, oK, rfl, hbK, hcK⟩ := RK (by omega)
 have x1 : w'.cell? ⟨bK, oK + j * 4 + 1, none⟩ = some (.bool x.down) := hcK j x hx 1 _ rfl
 have hts : kl.take (j + 1) = kl.take j ++ [x] := Sb.take_snoc hx
 have hdd : Sb.downs (kl.take j) ≤ 120 := by have h9 := hdl (kl.take j); rw [List.length_take] at h9; omega
 have hd0 : (0 : Int) ≤ (Sb.downs (kl.take j) : Int) := by omega
 clear hcK hx
 obtain ⟨b9, hb9⟩ : ∃ b, b = x.down := ⟨_, rfl⟩
 rw [← hb9] at x1
 have HB9 := H9 hb9
 clear hb9
 cases b9
 · have hds : Sb.downs (kl.take (j + 1)) = Sb.downs (kl.take j) := by rw [hts, Sb.downs_append]; unfold Sb.downs; simp [← HB9.out]
   have HDS := H9 hds
   clear hds hts
   go_wp2_with fail
   exact ⟨n - 1, by omega, trivial, j + 1, by omega, Fr.mk rfl ⟨rfl, rfl, rfl, (by rw [HDS.out]; rfl), rfl, (by push_cast; rfl), trivial⟩⟩
 · have hds : Sb.downs (kl.take (j + 1)) = Sb.downs (kl.take j) + 1 := by rw [hts, Sb.downs_append]; unfold Sb.downs; simp [← HB9.out]
   have HDS := H9 hds
   clear hds hts
   go_wp2_with fail
   exact ⟨n - 1, by omega, trivial, j + 1, by omega, Fr.mk rfl ⟨rfl, rfl, rfl, (by rw [HDS.out]; push_cast; rfl), rfl, (by push_cast; rfl), trivial⟩⟩
structure ED (V : World) (WA : Option Addr) (wl : List TS) (GA : Option Addr) (G : List TY) : Prop where
 rg : RowsAt V V.heap.size 3 TY.row GA G
 rw_ : RowsAt V V.heap.size 3 TS.row WA wl
 gp : ∀ a ∈ G, IntsAt V V.heap.size .i16 a.S a.s.zs
 gk : ∀ a ∈ G, RowsAt V V.heap.size 4 Ev.Key.row a.K a.s.ks
 wp : ∀ a ∈ wl, IntsAt V V.heap.size .i16 a.S a.s.zs
theorem zul {w : World} {n : Nat} {A : Option Addr} {l : List TY} (h : RowsAt w n 3 TY.row A l) {k : Nat} {a : TY} (ha : l[k]? = some a) : ∃ b off, A = some ⟨b, off, none⟩ ∧ b < n ∧ w.cell? ⟨b, off + k * 3, none⟩ = some (.int .i64 a.s.at_) ∧ w.cell? ⟨b, off + k * 3 + 1, none⟩ = some (.slice a.S a.s.zs.length a.c) ∧ w.cell? ⟨b, off + k * 3 + 2, none⟩ = some (.slice a.K a.s.ks.length a.kc) := by
 obtain ⟨b, off, rfl, hb, hc⟩ := h (by have := (List.getElem?_eq_some_iff.1 ha).1; omega)
 exact ⟨b, off, rfl, hb, hc k a ha 0 _ rfl, hc k a ha 1 _ rfl, hc k a ha 2 _ rfl⟩
theorem Ev.Key.one (a : Ev.Key) : ∀ u ∈ Ev.Key.row a, u.oneCell' = true := by intro u hu; simp [Ev.Key.row] at hu; rcases hu with rfl | rfl | rfl | rfl <;> rfl
noncomputable def enF_code : Code := ((Tryz.f6.body.bind (fromReg 47)).getD .skip)
theorem zum {w V : World} {WA : Option Addr} {wc : Nat} {wl : List TS} {GA : Option Addr} {gc : Nat} {G : List TY} {pr : Nat} (D : ED V WA wl GA G) (U : Bel w V) (hF : Sb.F2 Sb.mG ((G.map TY.s).filter Sb.nok) (wl.map TS.s)) (hd : Sb.downs (Sb.keysL (G.map TY.s)) = pr) (hG : G.length ≤ 80) (hK : (Sb.keysL (G.map TY.s)).length ≤ 120) (hpr : pr ≤ 100) (hwl : wl.length ≤ 100) (a : Act) (ha : Fr 325 [(13, .slice WA wl.length wc), (14, .slice GA G.length gc), (15, .slice none 0 0), (17, .int .i64 (pr : Int)), (18, .int .i64 0)] a) : firstWp Tryz.prog enF_code (bodyPost Tryz.prog Tryz.f6 (fun e w' => e = .returned (.bool true) ∧ Below w.heap.size w w')) a V := by
 obtain ⟨s, rfl, hs⟩ := ha
 rw [r325]
 obtain ⟨e13, e14, e15, e17, e18, _⟩ := hs
 rw [e13, e14, e15, e17, e18]
 obtain ⟨got, hgot⟩ : ∃ g, g = G.map TY.s := ⟨_, rfl⟩
 rw [← hgot] at hF hd hK
 have hgl : got.length = G.length := by rw [hgot, List.length_map]
 have HGOT := H9 hgot
 have HF := H9 hF
 have HD := H9 hd
 have HKL := H9 hK
 clear hgot hF hd hK e13 e14 e15 e17 e18
 refine zct ?_
 intro _ _
 go_wp2_with fail
 refine wp_loop_rounds (G.length + 1) (zep (fun n a wr => ∃ (j : Nat) (KA : Option Addr) (kc : Nat), n + j = G.length ∧ Hid (Owns wr V.heap.size 89 4 KA (Sb.keysL (got.take j)).length kc ((Sb.keysL (got.take j)).flatMap Ev.Key.row)) ∧ Hid (Below V.heap.size V wr) ∧ Fr 325 [(13, .slice WA wl.length wc), (14, .slice GA G.length gc), (15, .slice KA (Sb.keysL (got.take j)).length kc), (17, .int .i64 (pr : Int)), (18, .int .i64 0), (41, .int .i64 (((got.take j).filter Sb.nok).length : Int)), (42, .int .i64 (j : Int))] a) (fun n a wr hJ => ?_) G.length _ _ ⟨0, none, 0, rfl, H9 Owns.nil, H9 (Below.refl _ _), Fr.mk rfl ⟨rfl, rfl, rfl, rfl, rfl, rfl, rfl, trivial⟩⟩)
 obtain ⟨j, KA, kc, hn, HO, U2, ha⟩ := hJ
 obtain ⟨s, rfl, hs⟩ := ha
 rw [r325]
 obtain ⟨e13, e14, e15, e17, e18, e41, e42, _⟩ := hs
 rw [e13, e14, e15, e17, e18, e41, e42]
 clear e13 e14 e15 e17 e18 e41 e42
 have hj0 : (0 : Int) ≤ (j : Int) := by omega
 by_cases hj : j < G.length
 rotate_left
 · obtain rfl : j = G.length := by omega
   have hta : got.take G.length = got := by rw [← hgl]; exact List.take_length
   rw [hta] at HO ⊢
   have hlt : ¬(G.length : Int) < (G.length : Int) := by omega
   go_upto_region 58 with fail
   refine zcw (by assumption) (by assumption) ?_
   have hfl : (got.filter Sb.nok).length = wl.length := by rw [HF.out.len, List.length_map]
   rw [hfl]
   exact zuk (Owns.rows HO.out rfl Ev.Key.rowlen) (U.later U2.out) HD.out HKL.out _ (Fr.mk rfl ⟨rfl, rfl, rfl, rfl, rfl, trivial⟩)
 have hj1 : (j : Int) < (G.length : Int) := by omega
 obtain ⟨g, hg⟩ : ∃ g, G[j]? = some g := ⟨_, List.getElem?_eq_getElem hj⟩
 have hgs : got[j]? = some g.s := by rw [HGOT.out, List.getElem?_map, hg]; rfl
 have htk : got.take (j + 1) = got.take j ++ [g.s] := Sb.take_snoc hgs
 obtain ⟨bG, oG, rfl, hbG, q0, q1, q2⟩ := zul D.rg hg
 have r2 := (U2.out.cell (p := ⟨bG, oG + j * 3 + 2, none⟩) hbG).trans q2
 by_cases hk0 : g.s.ks = []
 · have hnok : Sb.nok g.s = true := by unfold Sb.nok; rw [hk0]; rfl
   have hft : (got.take (j + 1)).filter Sb.nok = (got.take j).filter Sb.nok ++ [g.s] := by rw [htk, List.filter_append]; simp [hnok]
   have hkt : Sb.keysL (got.take (j + 1)) = Sb.keysL (got.take j) := by rw [htk, Sb.keysL_append]; unfold Sb.keysL; simp [hk0]
   have hfl : ((got.take (j + 1)).filter Sb.nok).length = ((got.take j).filter Sb.nok).length + 1 := by rw [hft]; simp
   obtain ⟨wd, hwd, hm1, hm2, hm3⟩ := Sb.F2.at_ HF.out (Sb.filter_at Sb.nok got j g.s hgs hnok)
   rw [hk0] at r2
   obtain ⟨nn, hnn⟩ : ∃ n, n = ((got.take j).filter Sb.nok).length := ⟨_, rfl⟩
   rw [← hnn] at hwd hfl ⊢
   have HFL := H9 hfl
   have HKT := H9 hkt
   rw [List.getElem?_map] at hwd
   obtain ⟨tw, htw, htws⟩ := Option.map_eq_some_iff.1 hwd
   subst htws
   have hnl : nn < wl.length := (List.getElem?_eq_some_iff.1 htw).1
   obtain ⟨bW, oW, rfl, hbW, p0, p1, p2⟩ := znh D.rw_ htw
   have hn0 : (0 : Int) ≤ (nn : Int) := by omega
   have hn1 : (nn : Int) < (wl.length : Int) := by omega
   have hn2 : ¬(wl.length : Int) ≤ (nn : Int) := by omega
   rw [← hm1] at p0
   rw [hm2] at q1
   have HM1 := H9 hm1
   clear hnok hft hkt hfl hgs htk hwd hm1 p2 q2 hnn hk0
   go_upto_region 53 with fail
   refine wp_region_held_drew (S := fun w' => Below V.heap.size V w') (by kernel_rfl) (Below.drew U2.out) (fun qH => ?_)
   obtain ⟨X9, hX9⟩ : ∃ X, X = wr.drew := ⟨_, rfl⟩
   rw [← hX9] at qH ⊢
   have HO2 := H9 (show Owns X9 V.heap.size 89 4 KA (Sb.keysL (got.take j)).length kc ((Sb.keysL (got.take j)).flatMap Ev.Key.row) by rw [hX9]; exact HO.out.drew)
   clear hX9
   refine tk1 (i := 0) (v := ?_) rfl (Or.inl ⟨by rfl, ?_⟩) qH ?_
   rotate_left
   · (intro w hSw; clear hSw; go_simp; try with_reducible rfl)
   try simp only [ss9]
   refine tk1 (i := 1) (v := ?_) rfl (Or.inl ⟨by rfl, ?_⟩) qH ?_
   rotate_left
   · (intro w hSw; clear hSw; go_simp; try with_reducible rfl)
   try simp only [ss9]
   refine tk1 (i := 2) (v := ?_) rfl (Or.inl ⟨by rfl, ?_⟩) qH ?_
   rotate_left
   · (intro w hSw; clear hSw; go_simp; try with_reducible rfl)
   try simp only [ss9]
   refine tk1 (i := 3) (v := ?_) rfl (Or.inl ⟨by rfl, ?_⟩) qH ?_
   rotate_left
   · (intro w hSw; clear hSw; go_simp; try with_reducible rfl)
   try simp only [ss9]
   refine tk1 (i := 4) (v := ?_) rfl (Or.inl ⟨by rfl, ?_⟩) qH ?_
   rotate_left
   · (intro w hSw; clear hSw; go_simp; try with_reducible rfl)
   try simp only [ss9]
   refine tk1 (i := 5) (v := ?_) rfl (Or.inl ⟨by rfl, ?_⟩) qH ?_
   rotate_left
   · (intro w hSw; clear hSw; go_simp; try with_reducible rfl)
   try simp only [ss9]
   refine tk1 (i := 6) (v := ?_) rfl (Or.inl ⟨by rfl, ?_⟩) qH ?_
   rotate_left
   · (intro w hSw; clear hSw; go_simp; try with_reducible rfl)
   try simp only [ss9]
   refine tk1 (i := 7) (v := ?_) rfl (Or.inl ⟨by rfl, ?_⟩) qH ?_
   rotate_left
   · (intro w hSw; clear hSw; go_simp; try with_reducible rfl)
   try simp only [ss9]
   refine tk1 (i := 8) (v := ?_) rfl (Or.inl ⟨by rfl, ?_⟩) qH ?_
   rotate_left
   · (intro w hSw; clear hSw; go_simp; try with_reducible rfl)
   try simp only [ss9]
   refine tk1 (i := 9) (v := ?_) rfl (Or.inl ⟨by rfl, ?_⟩) qH ?_
   rotate_left
   · (intro w hSw; have y := (hSw.cell (p := ⟨bG, oG + j * 3, none⟩) hbG).trans q0; clear hSw; go_simp; try with_reducible rfl)
   try simp only [ss9]
   refine tk1 (i := 10) (v := ?_) rfl (Or.inl ⟨by rfl, ?_⟩) qH ?_
   rotate_left
   · (intro w hSw; clear hSw; go_simp; try with_reducible rfl)
   try simp only [ss9]
   refine tk1 (i := 11) (v := ?_) rfl (Or.inl ⟨by rfl, ?_⟩) qH ?_
   rotate_left
   · (intro w hSw; clear hSw; go_simp; try with_reducible rfl)
   try simp only [ss9]
   refine tk1 (i := 12) (v := ?_) rfl (Or.inl ⟨by rfl, ?_⟩) qH ?_
   rotate_left
   · (intro w hSw; clear hSw; go_simp; try with_reducible rfl)
   try simp only [ss9]
   refine tk1 (i := 13) (v := ?_) rfl (Or.inl ⟨by rfl, ?_⟩) qH ?_
   rotate_left
   · (intro w hSw; clear hSw; go_simp; try with_reducible rfl)
   try simp only [ss9]
   refine tk1 (i := 14) (v := ?_) rfl (Or.inl ⟨by rfl, ?_⟩) qH ?_
   rotate_left
   · (intro w hSw; have y := (hSw.cell (p := ⟨bW, oW + nn * 3, none⟩) hbW).trans p0; clear hSw; go_simp; try with_reducible rfl)
   try simp only [ss9]
   refine tk1 (i := 15) (v := ?_) rfl (Or.inl ⟨by rfl, ?_⟩) qH ?_
   rotate_left
   · (intro w hSw; clear hSw; go_simp; try with_reducible rfl)
   try simp only [ss9]
   refine tk1 (i := 16) (v := ?_) rfl (Or.inl ⟨by rfl, ?_⟩) qH ?_
   rotate_left
   · (intro w hSw; clear hSw; go_simp; try with_reducible rfl)
   try simp only [ss9]
   refine tk1 (i := 17) (v := ?_) rfl (Or.inl ⟨by rfl, ?_⟩) qH ?_
   rotate_left
   · (intro w hSw; clear hSw; go_simp; try with_reducible rfl)
   try simp only [ss9]
   refine tk1 (i := 18) (v := ?_) rfl (Or.inl ⟨by rfl, ?_⟩) qH ?_
   rotate_left
   · (intro w hSw; clear hSw; go_simp; try with_reducible rfl)
   try simp only [ss9]
   refine tk1 (i := 19) (v := ?_) rfl (Or.inl ⟨by rfl, ?_⟩) qH ?_
   rotate_left
   · (intro w hSw; clear hSw; go_simp; try with_reducible rfl)
   try simp only [ss9]
   refine tk1 (i := 20) (v := ?_) rfl (Or.inl ⟨by rfl, ?_⟩) qH ?_
   rotate_left
   · (intro w hSw; clear hSw; go_simp; try with_reducible rfl)
   try simp only [ss9]
   refine tk1 (i := 21) (v := ?_) rfl (Or.inl ⟨by rfl, ?_⟩) qH ?_
   rotate_left
   · (intro w hSw; clear hSw; go_simp; try with_reducible rfl)
   try simp only [ss9]
   refine tk1 (i := 22) (v := ?_) rfl (Or.inl ⟨by rfl, ?_⟩) qH ?_
   rotate_left
   · (intro w hSw; have y := (hSw.cell (p := ⟨bG, oG + j * 3 + 1, none⟩) hbG).trans q1; clear hSw; go_simp; try with_reducible rfl)
   try simp only [ss9]
   refine tk1 (i := 23) (v := ?_) rfl (Or.inl ⟨by rfl, ?_⟩) qH ?_
   rotate_left
   · (intro w hSw; clear hSw; go_simp; try with_reducible rfl)
   try simp only [ss9]
   refine tk1 (i := 24) (v := ?_) rfl (Or.inl ⟨by rfl, ?_⟩) qH ?_
   rotate_left
   · (intro w hSw; clear hSw; go_simp; try with_reducible rfl)
   try simp only [ss9]
   refine tk1 (i := 25) (v := ?_) rfl (Or.inl ⟨by rfl, ?_⟩) qH ?_
   rotate_left
   · (intro w hSw; clear hSw; go_simp; try with_reducible rfl)
   try simp only [ss9]
   refine wpAnyH_done (by kernel_rfl) ?_ _
   replace U2 := H9 qH
   clear qH HO
   show Exit.then _ _ Exit.normal _ _
   go_upto_region 55 with fail
   clear q0 p0 r2
   by_cases hz : tw.s.zs = []
   · have hz0 : ¬(0 : Int) < (tw.s.zs.length : Int) := by rw [hz]; simp
     rw [hz] at p1
     refine wp_region_held_drew (S := fun w' => Below V.heap.size V w') (by kernel_rfl) (Below.drew U2.out) (fun qH => ?_)
     obtain ⟨X8, hX8⟩ : ∃ X, X = X9.drew := ⟨_, rfl⟩
     rw [← hX8] at qH ⊢
     have HO3 := H9 (show Owns X8 V.heap.size 89 4 KA (Sb.keysL (got.take j)).length kc ((Sb.keysL (got.take j)).flatMap Ev.Key.row) by rw [hX8]; exact HO2.out.drew)
     clear hX8
     refine tk1 (i := 0) (v := ?_) rfl (Or.inl ⟨by rfl, ?_⟩) qH ?_
     rotate_left
     · (intro w hSw; clear hSw; go_simp; try with_reducible rfl)
     try simp only [ss9]
     refine tk1 (i := 1) (v := ?_) rfl (Or.inl ⟨by rfl, ?_⟩) qH ?_
     rotate_left
     · (intro w hSw; clear hSw; go_simp; try with_reducible rfl)
     try simp only [ss9]
     refine tk1 (i := 2) (v := ?_) rfl (Or.inl ⟨by rfl, ?_⟩) qH ?_
     rotate_left
     · (intro w hSw; clear hSw; go_simp; try with_reducible rfl)
     try simp only [ss9]
     refine tk1 (i := 3) (v := ?_) rfl (Or.inl ⟨by rfl, ?_⟩) qH ?_
     rotate_left
     · (intro w hSw; clear hSw; go_simp; try with_reducible rfl)
     try simp only [ss9]
     refine tk1 (i := 4) (v := ?_) rfl (Or.inl ⟨by rfl, ?_⟩) qH ?_
     rotate_left
     · (intro w hSw; have y := (hSw.cell (p := ⟨bW, oW + nn * 3 + 1, none⟩) hbW).trans p1; clear hSw; go_simp; try with_reducible rfl)
     try simp only [ss9]
     refine tk1 (i := 5) (v := ?_) rfl (Or.inl ⟨by rfl, ?_⟩) qH ?_
     rotate_left
     · (intro w hSw; clear hSw; go_simp; try with_reducible rfl)
     try simp only [ss9]
     refine tk1 (i := 6) (v := ?_) rfl (Or.inl ⟨by rfl, ?_⟩) qH ?_
     rotate_left
     · (intro w hSw; clear hSw; go_simp; try with_reducible rfl)
     try simp only [ss9]
     refine tk1 (i := 7) (v := ?_) rfl (Or.inl ⟨by rfl, ?_⟩) qH ?_
     rotate_left
     · (intro w hSw; clear hSw; go_simp; try with_reducible rfl)
     try simp only [ss9]
     refine tk1 (i := 8) (v := undef) rfl (Or.inr ⟨by rfl, rfl⟩) qH ?_
     try simp only [ss9]
     refine tk1 (i := 9) (v := undef) rfl (Or.inr ⟨by rfl, rfl⟩) qH ?_
     try simp only [ss9]
     refine tk1 (i := 10) (v := undef) rfl (Or.inr ⟨by rfl, rfl⟩) qH ?_
     try simp only [ss9]
     refine tk1 (i := 11) (v := undef) rfl (Or.inr ⟨by rfl, rfl⟩) qH ?_
     try simp only [ss9]
     refine tk1 (i := 12) (v := undef) rfl (Or.inr ⟨by rfl, rfl⟩) qH ?_
     try simp only [ss9]
     refine tk1 (i := 13) (v := undef) rfl (Or.inr ⟨by rfl, rfl⟩) qH ?_
     try simp only [ss9]
     refine tk1 (i := 14) (v := undef) rfl (Or.inr ⟨by rfl, rfl⟩) qH ?_
     try simp only [ss9]
     refine tk1 (i := 15) (v := undef) rfl (Or.inr ⟨by rfl, rfl⟩) qH ?_
     try simp only [ss9]
     refine tk1 (i := 16) (v := undef) rfl (Or.inr ⟨by rfl, rfl⟩) qH ?_
     try simp only [ss9]
     refine tk1 (i := 17) (v := undef) rfl (Or.inr ⟨by rfl, rfl⟩) qH ?_
     try simp only [ss9]
     refine tk1 (i := 18) (v := undef) rfl (Or.inr ⟨by rfl, rfl⟩) qH ?_
     try simp only [ss9]
     refine tk1 (i := 19) (v := undef) rfl (Or.inr ⟨by rfl, rfl⟩) qH ?_
     try simp only [ss9]
     refine tk1 (i := 20) (v := ?_) rfl (Or.inl ⟨by rfl, ?_⟩) qH ?_
     rotate_left
     · (intro w hSw; clear hSw; go_simp; try with_reducible rfl)
     try simp only [ss9]
     refine wpAnyH_done (by kernel_rfl) ?_ _
     replace U2 := H9 qH
     clear qH HO2
     show Exit.then _ _ Exit.normal _ _
     go_wp2_with fail
     exact ⟨n - 1, by omega, j + 1, by omega, KA, kc, by rw [HKT.out]; exact HO3, Fr.mk rfl ⟨rfl, rfl, (by rw [HKT.out]; rfl), rfl, rfl, (by rw [HFL.out]; push_cast; rfl), (by push_cast; rfl), trivial⟩⟩
   · have he : g.s.zs = tw.s.zs := by rcases hm3 with h | h; exact absurd h hz; exact h
     have hwp := D.wp tw (List.mem_of_getElem? htw)
     rw [← he] at hwp
     rw [← he, hm2] at p1
     have HE := H9 he
     clear hz hm3 he
     refine wp_region_held_drew (S := fun w' => Below V.heap.size V w') (by kernel_rfl) (Below.drew U2.out) (fun qH => ?_)
     obtain ⟨X8, hX8⟩ : ∃ X, X = X9.drew := ⟨_, rfl⟩
     rw [← hX8] at qH ⊢
     have HO3 := H9 (show Owns X8 V.heap.size 89 4 KA (Sb.keysL (got.take j)).length kc ((Sb.keysL (got.take j)).flatMap Ev.Key.row) by rw [hX8]; exact HO2.out.drew)
     clear hX8
     refine tk1 (i := 0) (v := ?_) rfl (Or.inl ⟨by rfl, ?_⟩) qH ?_
     rotate_left
     · (intro w hSw; clear hSw; go_simp; try with_reducible rfl)
     try simp only [ss9]
     refine tk1 (i := 1) (v := ?_) rfl (Or.inl ⟨by rfl, ?_⟩) qH ?_
     rotate_left
     · (intro w hSw; clear hSw; go_simp; try with_reducible rfl)
     try simp only [ss9]
     refine tk1 (i := 2) (v := ?_) rfl (Or.inl ⟨by rfl, ?_⟩) qH ?_
     rotate_left
     · (intro w hSw; clear hSw; go_simp; try with_reducible rfl)
     try simp only [ss9]
     refine tk1 (i := 3) (v := ?_) rfl (Or.inl ⟨by rfl, ?_⟩) qH ?_
     rotate_left
     · (intro w hSw; clear hSw; go_simp; try with_reducible rfl)
     try simp only [ss9]
     refine tk1 (i := 4) (v := ?_) rfl (Or.inl ⟨by rfl, ?_⟩) qH ?_
     rotate_left
     · (intro w hSw; have y := (hSw.cell (p := ⟨bW, oW + nn * 3 + 1, none⟩) hbW).trans p1; clear hSw; go_simp; try with_reducible rfl)
     try simp only [ss9]
     refine tk1 (i := 5) (v := ?_) rfl (Or.inl ⟨by rfl, ?_⟩) qH ?_
     rotate_left
     · (intro w hSw; clear hSw; go_simp; try with_reducible rfl)
     try simp only [ss9]
     refine tk1 (i := 6) (v := ?_) rfl (Or.inl ⟨by rfl, ?_⟩) qH ?_
     rotate_left
     · (intro w hSw; clear hSw; go_simp; try with_reducible rfl)
     try simp only [ss9]
     refine tk1 (i := 7) (v := ?_) rfl (Or.inl ⟨by rfl, ?_⟩) qH ?_
     rotate_left
     · (intro w hSw; clear hSw; go_simp; try with_reducible rfl)
     try simp only [ss9]
     refine tk1 (i := 8) (v := ?_) rfl (Or.inl ⟨by rfl, ?_⟩) qH ?_
     rotate_left
     · (intro w hSw; clear hSw; go_simp; try with_reducible rfl)
     try simp only [ss9]
     refine tk1 (i := 9) (v := ?_) rfl (Or.inl ⟨by rfl, ?_⟩) qH ?_
     rotate_left
     · (intro w hSw; clear hSw; go_simp; try with_reducible rfl)
     try simp only [ss9]
     refine tk1 (i := 10) (v := ?_) rfl (Or.inl ⟨by rfl, ?_⟩) qH ?_
     rotate_left
     · (intro w hSw; clear hSw; go_simp; try with_reducible rfl)
     try simp only [ss9]
     refine tk1 (i := 11) (v := ?_) rfl (Or.inl ⟨by rfl, ?_⟩) qH ?_
     rotate_left
     · (intro w hSw; clear hSw; go_simp; try with_reducible rfl)
     try simp only [ss9]
     refine tk1 (i := 12) (v := ?_) rfl (Or.inl ⟨by rfl, ?_⟩) qH ?_
     rotate_left
     · (intro w hSw; have y := (hSw.cell (p := ⟨bG, oG + j * 3 + 1, none⟩) hbG).trans q1; clear hSw; go_simp; try with_reducible rfl)
     try simp only [ss9]
     refine tk1 (i := 13) (v := ?_) rfl (Or.inl ⟨by rfl, ?_⟩) qH ?_
     rotate_left
     · (intro w hSw; clear hSw; go_simp; try with_reducible rfl)
     try simp only [ss9]
     refine tk1 (i := 14) (v := ?_) rfl (Or.inl ⟨by rfl, ?_⟩) qH ?_
     rotate_left
     · (intro w hSw; clear hSw; go_simp; try with_reducible rfl)
     try simp only [ss9]
     refine tk1 (i := 15) (v := ?_) rfl (Or.inl ⟨by rfl, ?_⟩) qH ?_
     rotate_left
     · (intro w hSw; clear hSw; go_simp; try with_reducible rfl)
     try simp only [ss9]
     refine tk1 (i := 16) (v := ?_) rfl (Or.inl ⟨by rfl, ?_⟩) qH ?_
     rotate_left
     · (intro w hSw; clear hSw; go_simp; try with_reducible rfl)
     try simp only [ss9]
     refine tk1 (i := 17) (v := ?_) rfl (Or.inl ⟨by rfl, ?_⟩) qH ?_
     rotate_left
     · (intro w hSw; have y := (hSw.cell (p := ⟨bW, oW + nn * 3 + 1, none⟩) hbW).trans p1; clear hSw; go_simp; try with_reducible rfl)
     try simp only [ss9]
     refine wpAnyH_ready (rs := [18]) (by kernel_rfl) (by simp) ?_
     refine AllReadyH.cons (o := _) rfl (fun K hK => ?_) AllReadyH.nil
     go_simp
     refine (zkk g.S tw.S g.s.zs 160 g.c tw.c hm2 _ ((D.gp g (List.mem_of_getElem? hg)).later qH) (hwp.later qH) (by omega)).mono ?_
     rintro e X7 ⟨rfl, hb7⟩
     replace HO3 := H9 (HO3.out.below hb7)
     refine hK.out _ _ ?_ (fun qH => ?_)
     · exact zal hb7 qH
     clear hK K hb7
     try simp only [ss9]
     refine tk1 (i := 19) (v := ?_) rfl (Or.inl ⟨by rfl, ?_⟩) qH ?_
     rotate_left
     · (intro w hSw; clear hSw; go_simp; try with_reducible rfl)
     try simp only [ss9]
     refine tk1 (i := 20) (v := ?_) rfl (Or.inl ⟨by rfl, ?_⟩) qH ?_
     rotate_left
     · (intro w hSw; clear hSw; go_simp; try with_reducible rfl)
     try simp only [ss9]
     refine wpAnyH_done (by kernel_rfl) ?_ _
     replace U2 := H9 qH
     clear qH HO2
     show Exit.then _ _ Exit.normal _ _
     go_wp2_with fail
     exact ⟨n - 1, by omega, j + 1, by omega, KA, kc, by rw [HKT.out]; exact HO3, Fr.mk rfl ⟨rfl, rfl, (by rw [HKT.out]; rfl), rfl, rfl, (by rw [HFL.out]; push_cast; rfl), (by push_cast; rfl), trivial⟩⟩
 · have hk2 : 0 < g.s.ks.length := List.length_pos_iff.2 hk0
   have hk1 : (0 : Int) < (g.s.ks.length : Int) := by omega
   have hk3 : ¬g.s.ks.length = 0 := by omega
   have hnok : Sb.nok g.s = false := by unfold Sb.nok; simpa using hk0
   have hft : (got.take (j + 1)).filter Sb.nok = (got.take j).filter Sb.nok := by rw [htk, List.filter_append]; simp [hnok]
   have hkt : Sb.keysL (got.take (j + 1)) = Sb.keysL (got.take j) ++ g.s.ks := by rw [htk, Sb.keysL_append]; unfold Sb.keysL; simp
   have hle : (Sb.keysL (got.take (j + 1))).length ≤ (Sb.keysL got).length := by
    have h9 : Sb.keysL got = Sb.keysL (got.take (j + 1)) ++ Sb.keysL (got.drop (j + 1)) := by rw [← Sb.keysL_append, List.take_append_drop]
    rw [h9, List.length_append]; omega
   rw [hkt, List.length_append] at hle
   have hkl := HKL.out
   have hks : (Sb.keysL (got.take j)).length + g.s.ks.length ≤ 120 := by omega
   have HFT := H9 hft
   have HKT := H9 hkt
   have RK : RowsAt wr V.heap.size 4 Ev.Key.row g.K g.s.ks := (D.gk g (List.mem_of_getElem? hg)).keep fun p hp => U2.out.cell hp
   have hsz := U2.out.size
   clear hnok hft hkt hle hkl hgs htk q0 q1 q2
   go_wp2_with (at_builtin; go_loud (refine zbu rfl _ _ 78 rfl V.heap.size 89 4 16 _ Tryz.underlying78 Ev.info_key rfl (by decide) KA (Sb.keysL (got.take j)).length kc _ rfl HO.out V.heap.size Ev.Key.row Ev.Key.rowlen Ev.Key.one g.K g.s.ks.length g.kc g.s.ks rfl RK rfl (by unfold maxLen; omega) (by omega) hsz ((Sb.keysL (got.take j)).length + g.s.ks.length) rfl ?_); intro A9 c9 v1 qo hgr hat)
   have U3 := H9 (Below.grown U2.out hgr hsz fun k e => (HO.out.block k e).1)
   have HO3 := H9 (show Owns v1 V.heap.size 89 4 A9 (Sb.keysL (got.take (j + 1))).length c9 ((Sb.keysL (got.take (j + 1))).flatMap Ev.Key.row) by rw [HKT.out, List.length_append, List.flatMap_append]; exact qo)
   first
    | exact ⟨n - 1, by omega, j + 1, A9, c9, by omega, HO3, U3, Fr.mk rfl ⟨rfl, rfl, (by rw [HKT.out, List.length_append]; rfl), rfl, rfl, (by rw [HFT.out]; rfl), (by push_cast; rfl), trivial⟩⟩
    | exact ⟨n - 1, by omega, j + 1, by omega, A9, c9, HO3, U3, Fr.mk rfl ⟨rfl, rfl, (by rw [HKT.out, List.length_append]; rfl), rfl, rfl, (by rw [HFT.out]; rfl), (by push_cast; rfl), trivial⟩⟩
end Go.Proofs.YtahbecinkciahaaGreat
