/- Layer 30: the jitter buffer in plain words; no program in sight. -/
import Derived.WalkKit
import Derived.Lib.BitFns
import Derived.Below
import Derived.Deep.Draws
import Derived.Deep.AppendLies
import Derived.Deep.OwnRows
import Derived.Laws.BytesArg
import Derived.Laws.OwnMore
import Derived.Lib.Hide
import Derived.Test.YtahbecinkciahaaGreatRows
import Derived.WalkSpells
import Derived.WalkLawsBesides
import Derived.Deep.MidRow
import Derived.Outline
import Derived.Deep.QuietTactic
import Derived.BigQuiet
import Derived.StillTailTactics
import Derived.Laws.BitsAllLaws
import Derived.Deep.RegionHeld3
import Derived.Deep.RegionWith
namespace Go.Proofs.YtahbecinkciahaaGreat.Jb
open Go.RowKit
set_option linter.unusedVariables false
/-- a packet -/
structure Md where
  sq : Int
  ti : Int
  mrk : Bool
  ty : Int
  pl : List Int
/-- a packet with its play time -/
structure Wt where
  at_ : Int
  m : Md
/-- a state -/
structure Jt where
  least : Int
  most : Int
  now : Int
  on : Bool
  zero : Int
  first : Int
  high : Int
  done : Int
  spread : Int
  trans : Int
  q : List Wt
  late : Int
  twice : Int
  played : Int
def Md.zero : Md := ⟨0, 0, false, 0, []⟩
def Wt.zero : Wt := ⟨0, Md.zero⟩
def Jt.none : Jt := ⟨0, 0, 0, false, 0, 0, 0, 0, 0, 0, [], 0, 0, 0⟩
def Md.ok (m : Md) : Prop := (0 ≤ m.sq ∧ m.sq ≤ 281474976710656) ∧ (-281474976710656 ≤ m.ti ∧ m.ti ≤ 281474976710656) ∧ m.pl.length ≤ 1500
instance (m : Md) : Decidable m.ok := by unfold Md.ok; infer_instance
def cfg (l m : Int) : Prop := 1 ≤ l ∧ l ≤ m ∧ m ≤ 1000
instance (l m : Int) : Decidable (cfg l m) := by unfold cfg; infer_instance
/-- a stands ahead of b in a queue -/
def bef (a b : Wt) : Prop := a.at_ < b.at_ ∨ (a.at_ = b.at_ ∧ a.m.sq < b.m.sq)
instance (a b : Wt) : Decidable (bef a b) := by unfold bef; infer_instance
/-- the k-th packet of the queue is as it has to be -/
def okAt (now high : Int) (q : List Wt) (k : Nat) : Prop :=
  (q.getD k Wt.zero).m.ok ∧ now < (q.getD k Wt.zero).at_ ∧ (q.getD k Wt.zero).at_ ≤ 562949953421312 ∧ (q.getD k Wt.zero).m.sq ≤ high ∧
  (0 < k → bef (q.getD (k - 1) Wt.zero) (q.getD k Wt.zero)) ∧ ∀ i, i < k → (q.getD i Wt.zero).m.sq ≠ (q.getD k Wt.zero).m.sq
instance (now high : Int) (q : List Wt) (k : Nat) : Decidable (okAt now high q k) := by unfold okAt; infer_instance
def okQ (now high : Int) (q : List Wt) : Prop := q.length ≤ 200 ∧ ∀ k, k < q.length → okAt now high q k
instance (now high : Int) (q : List Wt) : Decidable (okQ now high q) := by unfold okQ; infer_instance
def Jt.nums (s : Jt) : Prop := (0 ≤ s.now ∧ s.now ≤ 281474976710656) ∧ (-1125899906842624 ≤ s.zero ∧ s.zero ≤ 1125899906842624) ∧ (-1125899906842624 ≤ s.trans ∧ s.trans ≤ 1125899906842624) ∧
  (-281474976710656 ≤ s.first ∧ s.first ≤ 281474976710656) ∧ (-1 ≤ s.high ∧ s.high ≤ 281474976710656) ∧ (-1 ≤ s.done ∧ s.done ≤ 281474976710656) ∧ (0 ≤ s.spread ∧ s.spread ≤ 72057594037927936)
instance (s : Jt) : Decidable s.nums := by unfold Jt.nums; infer_instance
def Jt.cnts (s : Jt) : Prop := (0 ≤ s.late ∧ s.late ≤ 281474976710656) ∧ (0 ≤ s.twice ∧ s.twice ≤ 281474976710656) ∧ (0 ≤ s.played ∧ s.played ≤ 281474976710656)
instance (s : Jt) : Decidable s.cnts := by unfold Jt.cnts; infer_instance
def Jt.rest (s : Jt) : Prop := s.on = true ∨ (s.q.length = 0 ∧ s.high = -1 ∧ s.done = -1)
instance (s : Jt) : Decidable s.rest := by unfold Jt.rest; infer_instance
def Jt.ok (s : Jt) : Prop := s.nums ∧ cfg s.least s.most ∧ s.cnts ∧ s.rest ∧ okQ s.now s.high s.q
instance (s : Jt) : Decidable s.ok := by unfold Jt.ok; infer_instance
/-- Valid, as a value -/
def valid (s : Jt) : Bool := decide s.ok
def new (l m : Int) : Jt × Int := if cfg l m then (⟨l, m, 0, false, 0, 0, -1, -1, 0, 0, [], 0, 0, 0⟩, 0) else (Jt.none, 3)
def ptime (s : Jt) (t : Int) : Int := s.zero + (t - s.first) / 8
def play (s : Jt) (t : Int) : Int := if s.ok ∧ -281474976710656 ≤ t ∧ t ≤ 281474976710656 then ptime s t else 0
/-- the error of a call -/
def chk (s : Jt) (now : Int) (fm : Bool) : Int := if ¬s.ok ∨ 281474976710656 < now ∨ fm = false then 2 else if now < s.now then 9 else 0
def due (now : Int) (q : List Wt) : List Wt := q.takeWhile fun w => decide (w.at_ ≤ now)
def left (now : Int) (q : List Wt) : List Wt := q.dropWhile fun w => decide (w.at_ ≤ now)
def maxSq (d : Int) (l : List Wt) : Int := l.foldl (fun d w => max d w.m.sq) d
def run0 (s : Jt) (now : Int) : Jt := { s with q := left now s.q, played := s.played + (due now s.q).length, done := maxSq s.done (due now s.q), now := now }
def run (s : Jt) (now : Int) : Jt × List Wt × Int := if chk s now true = 0 then (run0 s now, due now s.q, 0) else (Jt.none, [], chk s now true)
def lastAt (z : Int) (q : List Wt) : Int := if q.length = 0 then z else max z ((q.getD (q.length - 1) Wt.zero).at_ + 1)
/-- the transit time of a packet is noted -/
def meas (s : Jt) (m : Md) : Jt :=
  let t := s.now - m.ti / 8
  let sp := if s.on then s.spread + max (t - s.trans) (s.trans - t) - (s.spread + 8) / 16 else s.spread
  let beg := s.on = false ∨ (m.mrk = true ∧ s.high < m.sq)
  { s with spread := sp, trans := t, on := true, high := max s.high m.sq, first := if beg then m.ti else s.first, zero := if beg then lastAt (s.now + min (s.least + sp / 4) s.most) s.q else s.zero }
def ins (q : List Wt) (w : Wt) : List Wt := q.takeWhile (fun x => decide (bef x w)) ++ w :: q.dropWhile (fun x => decide (bef x w))
/-- Put behind its checks, in a state that has run -/
def put0 (s : Jt) (m : Md) : Jt × Int :=
  if (s.q.any fun w => w.m.sq == m.sq) then ({ s with twice := s.twice + 1 }, 3) else
  if s.on = true ∧ m.sq ≤ s.done then ({ s with late := s.late + 1 }, 2) else
  if 200 ≤ s.q.length then (s, 4) else
  let r := meas s m
  let a := ptime r m.ti
  if a ≤ s.now then ({ r with late := r.late + 1 }, 2) else
  if s.now + 120000 < a then (r, 5) else ({ r with q := ins r.q ⟨a, m⟩ }, 1)
def put (s : Jt) (now : Int) (m : Md) : Jt × List Wt × Int × Int :=
  if chk s now (decide m.ok) = 0 then ((put0 (run0 s now) m).1, due now s.q, (put0 (run0 s now) m).2, 0) else (Jt.none, [], 0, chk s now (decide m.ok))
end Go.Proofs.YtahbecinkciahaaGreat.Jb
namespace Go.Proofs.YtahbecinkciahaaGreat.Jb
open Go.RowKit
set_option linter.unusedVariables false
/-- in the order of play times -/
def Asc (q : List Wt) : Prop := ∀ i j, i < j → j < q.length → bef (q.getD i Wt.zero) (q.getD j Wt.zero)
theorem bef_trans {a b c : Wt} (h1 : bef a b) (h2 : bef b c) : bef a c := by unfold bef at *; omega
theorem bef_at {a b : Wt} (h : bef a b) : a.at_ ≤ b.at_ := by unfold bef at h; omega
theorem okQ.asc {now high : Int} {q : List Wt} (h : okQ now high q) : Asc q := by
  intro i j hij hj
  induction j with
  | zero => omega
  | succ j ih =>
    have h1 := (h.2 (j + 1) hj).2.2.2.2.1 (by omega)
    rw [Nat.add_sub_cancel] at h1
    by_cases h2 : i = j
    · rw [h2]; exact h1
    · exact bef_trans (ih (by omega) (by omega)) h1
theorem Asc.head {a : Wt} {q : List Wt} (h : Asc (a :: q)) (b : Wt) (hb : b ∈ q) : bef a b := by
  obtain ⟨j, hj, rfl⟩ := List.getElem_of_mem hb
  have := h 0 (j + 1) (by omega) (by simp; omega)
  simpa [List.getD_eq_getElem?_getD, List.getElem?_eq_getElem hj] using this
theorem due_left (now : Int) (q : List Wt) : due now q ++ left now q = q := List.takeWhile_append_dropWhile
end Go.Proofs.YtahbecinkciahaaGreat.Jb
/- Plain functions for layer 29 (events): tones, senders, receivers, levels, noise; no program in sight. -/
namespace Go.Proofs.YtahbecinkciahaaGreat.Ev
open Go.RowKit
set_option linter.unusedVariables false

/-- the bytes of a tone, and the error -/
def encT (c : Int) (e : Bool) (v d : Int) : List Int × Int := if 63 < v then ([], 3) else ([c, v + (if e then 128 else 0), d / 256, d % 256], 0)
structure Tone where
  code : Int
  fin : Bool
  vol : Int
  dur : Int
def Tone.zero : Tone := ⟨0, false, 0, 0⟩
def decT (bs : List Int) : Tone × Int :=
  if bs.length < 4 then (Tone.zero, 6) else if 4 < bs.length ∨ bs.getD 1 0 / 64 % 2 = 1 then (Tone.zero, 5) else
    (⟨bs.getD 0 0, decide (128 ≤ bs.getD 1 0), bs.getD 1 0 % 64, 256 * bs.getD 2 0 + bs.getD 3 0⟩, 0)
/-- a sender -/
structure Snd where
  on : Bool
  code : Int
  vol : Int
  start : Int
  len : Int
  ends : Int
def Snd.zero : Snd := ⟨false, 0, 0, 0, 0, 0⟩
def Snd.valid (s : Snd) : Bool := decide (s.vol ≤ 63) && decide (0 ≤ s.len) && decide (s.len ≤ 65535) && decide (0 ≤ s.ends) && decide (s.ends ≤ 3) && (!s.on || s.ends == 0)
def press (s : Snd) (code vol time : Int) : Snd × Int :=
  if s.valid = false then (Snd.zero, 2) else if s.on = true ∨ s.ends ≠ 0 then (Snd.zero, 9) else if 63 < vol then (Snd.zero, 3) else (⟨true, code, vol, time, 0, 0⟩, 0)
def release (s : Snd) : Snd × Int :=
  if s.valid = false then (Snd.zero, 2) else if s.on = false then (Snd.zero, 9) else (⟨false, s.code, s.vol, s.start, s.len, 3⟩, 0)
structure Out where
  time : Int
  marker : Bool
  tone : Tone
def Out.zero : Out := ⟨0, false, Tone.zero⟩
structure Nxt where
  s : Snd
  o : Out
  some : Bool
  err : Int
def next (s : Snd) (n : Int) : Nxt :=
  if s.valid = false then ⟨Snd.zero, Out.zero, false, 2⟩ else if n < 1 ∨ 8000 < n then ⟨Snd.zero, Out.zero, false, 3⟩ else
    if s.on = true then ⟨⟨true, s.code, s.vol, s.start, min (s.len + n) 65535, s.ends⟩, ⟨s.start, s.len == 0, ⟨s.code, false, s.vol, min (s.len + n) 65535⟩⟩, true, 0⟩ else
      if s.ends = 0 then ⟨s, Out.zero, false, 0⟩ else ⟨if s.ends = 1 then Snd.zero else ⟨false, s.code, s.vol, s.start, s.len, s.ends - 1⟩, ⟨s.start, false, ⟨s.code, true, s.vol, s.len⟩⟩, true, 0⟩
/-- a receiver -/
structure Rcv where
  on : Bool
  time : Int
  code : Int
  len : Int
  ended : Bool
structure Key where
  code : Int
  down : Bool
  time : Int
  len : Int
def hear (r : Rcv) (time : Int) (t : Tone) : Rcv × List Key :=
  if r.on = false ∨ 1 ≤ (time - r.time) % 4294967296 ∧ (time - r.time) % 4294967296 < 2147483648 then
    (⟨true, time, t.code, t.dur, t.fin⟩, (if r.on = true ∧ r.ended = false then [⟨r.code, false, r.time, r.len⟩] else []) ++ [⟨t.code, true, time, 0⟩] ++ (if t.fin = true then [⟨t.code, false, time, t.dur⟩] else []))
  else if (time - r.time) % 4294967296 = 0 ∧ t.code = r.code ∧ r.ended = false then
    (⟨r.on, r.time, r.code, max r.len t.dur, t.fin⟩, if t.fin = true then [⟨r.code, false, r.time, max r.len t.dur⟩] else [])
  else (r, [])
/-- the sum of squares -/
def sumSq (zs : List Int) : Nat := (zs.map fun z => (z * z).toNat).sum
def lev (zs : List Int) : Int := if zs.length = 0 then 127 else if sumSq zs / zs.length = 0 then 127 else 3 * (30 - (Nat.log2 (sumSq zs / zs.length) : Int))
/-- noise -/
def amp : Nat → Int
  | 0 => 32767
  | k + 1 => amp k / 2
def seed (s : Int) : Nat → Int
  | 0 => s
  | k + 1 => (seed s k * 1103515245 + 12345) % 4294967296
def nsamp (a s : Int) (k : Nat) : Int := seed s (k + 1) / 65536 % (2 * a + 1) - a
def noise (level s n : Int) : List Int × Int × Int :=
  if n < 0 ∨ 8000 < n then ([], 0, 3) else ((List.range n.toNat).map fun k => nsamp (amp (level / 6).toNat) s k, seed s n.toNat, 0)
/-- silence: the count after a frame -/
def quiet (q : Int) (zs : List Int) : Int := if lev zs < 60 then 0 else min (max q 0) 9 + 1
theorem bitLenAux_eq : ∀ (f x : Nat), x < 2 ^ f → Lib.bitLenAux f x = if x = 0 then 0 else Nat.log2 x + 1
  | 0, x, h => by
    have : x = 0 := by simpa using h
    subst this; rfl
  | f + 1, x, h => by
    unfold Lib.bitLenAux
    by_cases h0 : x = 0
    · rw [if_pos h0, if_pos h0]
    · rw [if_neg h0, if_neg h0, bitLenAux_eq f (x / 2) (by rw [Nat.pow_succ] at h; omega)]
      by_cases h1 : x / 2 = 0
      · have : x = 1 := by omega
        subst this; rfl
      · rw [if_neg h1, Nat.log2_def x, if_pos (by omega)]; omega
theorem bitLen_eq (x : Nat) (h : x < 18446744073709551616) : Lib.bitLen x = if x = 0 then 0 else Nat.log2 x + 1 := bitLenAux_eq 64 x h
/-- the sum of the squares of the first k numbers -/
theorem sumSq_take (zs : List Int) (k : Nat) (h : k < zs.length) : sumSq (zs.take (k + 1)) = sumSq (zs.take k) + (zs.getD k 0 * zs.getD k 0).toNat := by
  unfold sumSq
  rw [List.take_succ_eq_append_getElem h, List.map_append, List.sum_append, List.getD_eq_getElem?_getD, List.getElem?_eq_getElem h]
  simp
theorem sq_bd (z : Int) (h0 : -32768 ≤ z) (h1 : z ≤ 32767) : 0 ≤ z * z ∧ z * z ≤ 1073741824 := by
  rcases Int.le_total 0 z with h | h
  · have h2 := Int.mul_nonneg h h
    have := Int.mul_le_mul h1 h1 h (by omega); omega
  · have h2 := Int.mul_nonneg (show 0 ≤ -z by omega) (show 0 ≤ -z by omega)
    rw [Int.neg_mul_neg] at h2
    have := Int.mul_le_mul (show -z ≤ 32768 by omega) (show -z ≤ 32768 by omega) (by omega) (by omega)
    rw [Int.neg_mul_neg] at this; omega
theorem sumSq_bd (zs : List Int) (h : ∀ z ∈ zs, -32768 ≤ z ∧ z ≤ 32767) : sumSq zs ≤ zs.length * 1073741824 := by
  induction zs with
  | nil => simp [sumSq]
  | cons a l ih =>
    have h1 := ih fun z hz => h z (List.mem_cons_of_mem _ hz)
    have h2 := sq_bd a (h a (List.mem_cons_self ..)).1 (h a (List.mem_cons_self ..)).2
    unfold sumSq at *
    simp only [List.map_cons, List.sum_cons, List.length_cons]
    omega
/-- the mean -/
theorem mean_bd (zs : List Int) (h : ∀ z ∈ zs, -32768 ≤ z ∧ z ≤ 32767) : sumSq zs / zs.length ≤ 1073741824 := by
  have := sumSq_bd zs h
  rcases Nat.eq_zero_or_pos zs.length with h0 | h0
  · rw [h0]; simp
  · exact Nat.div_le_of_le_mul (by omega)
theorem log2_bd (n : Nat) (h : n ≤ 1073741824) (h0 : n ≠ 0) : Nat.log2 n ≤ 30 := by
  have := (Nat.log2_lt h0 (k := 31)).2 (by omega)
  omega
/-- halving k times -/
def halve (p : Nat) : Nat → Nat
  | 0 => p
  | k + 1 => halve p k / 2
theorem lev_bd (zs : List Int) (h : ∀ z ∈ zs, -32768 ≤ z ∧ z ≤ 32767) : 0 ≤ lev zs ∧ lev zs ≤ 127 := by
  unfold lev
  have hm := mean_bd zs h
  split
  · omega
  · split
    · omega
    · rename_i h0 h1
      have := log2_bd _ hm h1
      omega
end Go.Proofs.YtahbecinkciahaaGreat.Ev
/- Plain functions for layer 25 (packet): sequence numbers; no program in sight. -/
namespace Go.Proofs.YtahbecinkciahaaGreat.Pk
open Go.RowKit
set_option linter.unusedVariables false
def newer (a b : Int) : Int := if (a - b) % 65536 = 0 then 0 else if (a - b) % 65536 < 32768 ∨ ((a - b) % 65536 = 32768 ∧ b < a) then 1 else -1
def near (last x m : Int) : Int := if last < -1152921504606846976 ∨ 1152921504606846976 < last then 0 else if m / 2 < (x - last) % m then last + ((x - last) % m - m) else last + (x - last) % m
/-- a track -/
structure Tr where
  on : Bool
  high : Int
  jump : Int
def Tr.zero : Tr := ⟨false, 0, 0⟩
def Tr.row (t : Tr) : List Value := [.bool t.on, .int .i64 t.high, .int .i64 t.jump]
def Tr.ok (t : Tr) : Prop := 0 ≤ t.high ∧ t.high ≤ 281474976710656 ∧ -1 ≤ t.jump ∧ t.jump ≤ 65535
instance (t : Tr) : Decidable t.ok := by unfold Tr.ok; infer_instance
/-- how far the next number with this sequence number lies above -/
def gap (high seq : Int) : Int := if (seq - high) % 65536 = 0 then 65536 else (seq - high) % 65536
def follow (t : Tr) (seq : Int) : Tr × Int × Bool :=
  if ¬t.ok then (Tr.zero, 0, false) else
  if t.on = false then (⟨true, seq, -1⟩, seq, true) else
  if 0 ≤ near t.high seq 65536 ∧ near t.high seq 65536 ≤ t.high + 3000 ∧ t.high - 100 ≤ near t.high seq 65536 then (⟨true, max t.high (near t.high seq 65536), -1⟩, near t.high seq 65536, true) else
  if seq = t.jump ∧ t.high < 140737488355328 then (⟨true, t.high + gap t.high seq, -1⟩, t.high + gap t.high seq, true) else
  (⟨true, t.high, (seq + 1) % 65536⟩, 0, false)
theorem near_bd16 (last x : Int) (h : ¬(last < -1152921504606846976 ∨ 1152921504606846976 < last)) : -32767 ≤ near last x 65536 - last ∧ near last x 65536 - last ≤ 32768 ∧ (near last x 65536 - x) % 65536 = 0 := by
  unfold near
  rw [if_neg h]
  split <;> omega
end Go.Proofs.YtahbecinkciahaaGreat.Pk
/- Plain functions for layer 26 (report): statistics, blocks; no program in sight. -/
namespace Go.Proofs.YtahbecinkciahaaGreat.Rep
open Go.RowKit
set_option linter.unusedVariables false
/-- statistics -/
structure St where
  seen : Bool
  base : Int
  high : Int
  got : Int
  wexp : Int
  wrec : Int
  trans : Int
  jit : Int
def St.zero : St := ⟨false, 0, 0, 0, 0, 0, 0, 0⟩
def St.row (s : St) : Array Value := #[.bool s.seen, .int .i64 s.base, .int .i64 s.high, .int .i64 s.got, .int .i64 s.wexp, .int .i64 s.wrec, .int .i64 s.trans, .int .i64 s.jit]
/-- a block of a report -/
structure Bk where
  source : Int
  frac : Int
  lost : Int
  high : Int
  jit : Int
  last : Int
  delay : Int
def Bk.zero : Bk := ⟨0, 0, 0, 0, 0, 0, 0⟩
def Bk.row (b : Bk) : Array Value := #[.int .u32 b.source, .int .u8 b.frac, .int .i64 b.lost, .int .u32 b.high, .int .u32 b.jit, .int .u32 b.last, .int .u32 b.delay]
def inB (lo hi x : Int) : Bool := decide (lo ≤ x) && decide (x ≤ hi)
def all (lo hi : Int) (xs : List Int) : Bool := xs.all (inB lo hi)
def okS (s : St) : Bool := all (-1125899906842624) 1125899906842624 [s.base, s.high, s.trans] && decide (s.base ≤ s.high) && all 0 1125899906842624 [s.got, s.wexp, s.wrec] && all 0 72057594037927936 [s.jit]
def small (x : Int) : Bool := inB (-281474976710656) 281474976710656 x
theorem inB_iff (lo hi x : Int) : inB lo hi x = true ↔ lo ≤ x ∧ x ≤ hi := by simp [inB]
theorem okS_iff (s : St) : okS s = true ↔ ((-1125899906842624 ≤ s.base ∧ s.base ≤ 1125899906842624) ∧ (-1125899906842624 ≤ s.high ∧ s.high ≤ 1125899906842624) ∧ (-1125899906842624 ≤ s.trans ∧ s.trans ≤ 1125899906842624)) ∧ s.base ≤ s.high ∧ ((0 ≤ s.got ∧ s.got ≤ 1125899906842624) ∧ (0 ≤ s.wexp ∧ s.wexp ≤ 1125899906842624) ∧ (0 ≤ s.wrec ∧ s.wrec ≤ 1125899906842624)) ∧ 0 ≤ s.jit ∧ s.jit ≤ 72057594037927936 := by
  simp [okS, all, inB, and_assoc]
def absI (x : Int) : Int := if x < 0 then -x else x
def arrive (s : St) (seq arr time : Int) : St :=
  if (okS s && small seq && small arr && small time) = false then St.zero else
    if s.seen = false then ⟨true, seq, seq, 1, 0, 0, arr - time, 0⟩ else
      ⟨true, min s.base seq, max s.high seq, s.got + 1, s.wexp, s.wrec, arr - time, s.jit + (absI (arr - time - s.trans) - (s.jit + 8) / 16)⟩
def frac (x y : Int) : Int := if 0 < x ∧ 0 < y then min (256 * y / x) 255 else 0
def summary (s : St) (source last delay : Int) : Bk × St :=
  if okS s = false then (Bk.zero, St.zero) else if s.seen = false then (⟨source, 0, 0, 0, 0, last, delay⟩, s) else
    (⟨source, frac (s.high - s.base + 1 - s.wexp) (s.high - s.base + 1 - s.wexp - (s.got - s.wrec)), min (max (s.high - s.base + 1 - s.got) (-8388608)) 8388607, s.high % 4294967296, min (s.jit / 16) 4294967295, last, delay⟩,
     ⟨s.seen, s.base, s.high, s.got, s.high - s.base + 1, s.got, s.trans, s.jit⟩)
def trip (now last delay : Int) : Int := if 2147483648 ≤ (now - last - delay) % 4294967296 then 0 else (now - last - delay) % 4294967296
theorem all_take (lo hi : Int) (xs : List Int) (k : Nat) (h : k < xs.length) : all lo hi (xs.take (k + 1)) = (all lo hi (xs.take k) && inB lo hi (xs.getD k 0)) := by
  unfold all
  rw [List.take_succ_eq_append_getElem h, List.all_append, List.getD_eq_getElem?_getD, List.getElem?_eq_getElem h]
  simp
theorem all_false (lo hi : Int) (xs : List Int) (k : Nat) (h : k < xs.length) (hx : inB lo hi (xs.getD k 0) = false) : all lo hi xs = false := by
  unfold all
  rw [List.all_eq_false]
  refine ⟨xs[k], List.getElem_mem h, ?_⟩
  rw [List.getD_eq_getElem?_getD, List.getElem?_eq_getElem h] at hx
  simpa using hx
end Go.Proofs.YtahbecinkciahaaGreat.Rep
/- Plain functions for layer 28 (delta): the steps, the state after a code, the code of a sample; no program in sight. -/
namespace Go.Proofs.YtahbecinkciahaaGreat.Dlt
open Go.RowKit

/-- the step with index i -/
def st : Nat → Int
  | 0 => 7
  | i + 1 => min (st i + (st i + 5) / 10) 32767
theorem st_bd : ∀ i, 7 ≤ st i ∧ st i ≤ 32767
  | 0 => by decide
  | i + 1 => by
    have h := st_bd i
    unfold st
    omega
/-- the steps, as the array holds them -/
def szL : List Value := (List.range 89).map fun i => .int .i64 (st i)
def szA : Array Value := szL.toArray
def zeroA : Array Value := Array.replicate 89 (.int .i64 0)
theorem szL_len : szL.length = 89 := by simp [szL]
theorem szL_at (i : Nat) (h : i < 89) : szL[i]? = some (.int .i64 (st i)) := by simp [szL, h]
theorem szL_one : ∀ v ∈ szL, v.oneCell' = true := by
  intro v hv
  obtain ⟨i, _, rfl⟩ := List.mem_map.1 hv
  rfl
/-- the state after the code m: value and index -/
def clamp (lo hi x : Int) : Int := min (max x lo) hi
def nextV (v i c : Int) : Int := clamp (-32768) 32767 (if 8 ≤ c then v - (2 * (c % 8) + 1) * st i.toNat / 8 else v + (2 * (c % 8) + 1) * st i.toNat / 8)
def nextI (i c : Int) : Int := clamp 0 88 (if c % 8 < 4 then i - 1 else i + 2 * (c % 8 - 3))
/-- the code of the sample x -/
def code (v i x : Int) : Int := (if x - v < 0 then 8 else 0) + min (4 * ((x - v).natAbs : Int) / st i.toNat) 7
theorem nextV_bd (v i c : Int) : -32768 ≤ nextV v i c ∧ nextV v i c ≤ 32767 := by unfold nextV clamp; omega
theorem nextI_bd (i c : Int) : 0 ≤ nextI i c ∧ nextI i c ≤ 88 := by unfold nextI clamp; omega
theorem code_bd (v i x : Int) : 0 ≤ code v i x ∧ code v i x ≤ 15 := by
  have h := st_bd i.toNat
  unfold code
  have h0 : 0 ≤ 4 * ((x - v).natAbs : Int) / st i.toNat := Int.ediv_nonneg (by omega) (by omega)
  split <;> omega
def valid (v i : Int) : Bool := decide (-32768 ≤ v) && decide (v ≤ 32767) && decide (0 ≤ i) && decide (i ≤ 88)
end Go.Proofs.YtahbecinkciahaaGreat.Dlt
/- Plain functions for layer 28's blocks: what Pack and Unpack return; no program in sight. -/
namespace Go.Proofs.YtahbecinkciahaaGreat.Dlt
open Go.RowKit

/-- the state behind a sample -/
def stepS (s : Int × Int) (x : Int) : Int × Int := (nextV s.1 s.2 (code s.1 s.2 x), nextI s.2 (code s.1 s.2 x))
/-- the state behind the first k samples -/
def stAt (s : Int × Int) (zs : List Int) (k : Nat) : Int × Int := (zs.take k).foldl stepS s
/-- the code of sample k -/
def codeAt (s : Int × Int) (zs : List Int) (k : Nat) : Int := code (stAt s zs k).1 (stAt s zs k).2 (zs.getD k 0)
theorem stAt_succ (s : Int × Int) (zs : List Int) (k : Nat) (h : k < zs.length) :
    stAt s zs (k + 1) = (nextV (stAt s zs k).1 (stAt s zs k).2 (codeAt s zs k), nextI (stAt s zs k).2 (codeAt s zs k)) := by
  unfold stAt
  rw [List.take_succ_eq_append_getElem h, List.foldl_append]
  unfold codeAt stAt
  rw [List.getD_eq_getElem?_getD, List.getElem?_eq_getElem h]
  rfl
theorem valid_next (v i c : Int) : valid (nextV v i c) (nextI i c) = true := by
  have h1 := nextV_bd v i c
  have h2 := nextI_bd i c
  simp [valid, h1, h2]
theorem stAt_valid (s : Int × Int) (hs : valid s.1 s.2 = true) (zs : List Int) : ∀ k, valid (stAt s zs k).1 (stAt s zs k).2 = true
  | 0 => hs
  | k + 1 => by
    by_cases h : k < zs.length
    · rw [stAt_succ s zs k h]; exact valid_next _ _ _
    · have e : stAt s zs (k + 1) = stAt s zs k := by unfold stAt; rw [List.take_of_length_le (by omega), List.take_of_length_le (by omega)]
      rw [e]; exact stAt_valid s hs zs k
theorem codeAt_bd (s : Int × Int) (zs : List Int) (k : Nat) : 0 ≤ codeAt s zs k ∧ codeAt s zs k ≤ 15 := code_bd _ _ _
/-- byte j of the codes, behind k samples -/
def part (s : Int × Int) (zs : List Int) (k j : Nat) : Int := (if 2 * j < k then 16 * codeAt s zs (2 * j) else 0) + (if 2 * j + 1 < k then codeAt s zs (2 * j + 1) else 0)
theorem part_bd (s : Int × Int) (zs : List Int) (k j : Nat) : 0 ≤ part s zs k j ∧ part s zs k j ≤ 255 := by
  have h1 := codeAt_bd s zs (2 * j)
  have h2 := codeAt_bd s zs (2 * j + 1)
  unfold part
  split <;> split <;> omega
/-- one sample more: an even one begins its byte, an odd one ends it -/
theorem part_even (s : Int × Int) (zs : List Int) (k : Nat) (h : k % 2 = 0) : part s zs k (k / 2) = 0 ∧ part s zs (k + 1) (k / 2) = 16 * codeAt s zs k := by
  have e : 2 * (k / 2) = k := by omega
  unfold part
  rw [e]
  constructor
  · rw [if_neg (by omega), if_neg (by omega)]; rfl
  · rw [if_pos (by omega), if_neg (by omega)]; omega
theorem part_odd (s : Int × Int) (zs : List Int) (k : Nat) (h : k % 2 = 1) : part s zs k (k / 2) = 16 * codeAt s zs (k - 1) ∧ part s zs (k + 1) (k / 2) = 16 * codeAt s zs (k - 1) + codeAt s zs k := by
  have e : 2 * (k / 2) = k - 1 := by omega
  have e2 : 2 * (k / 2) + 1 = k := by omega
  unfold part
  rw [e2, e]
  constructor
  · rw [if_pos (by omega), if_neg (by omega)]; omega
  · rw [if_pos (by omega), if_pos (by omega)]
theorem part_other (s : Int × Int) (zs : List Int) (k j : Nat) (h : j ≠ k / 2) : part s zs (k + 1) j = part s zs k j := by
  unfold part
  have a : (2 * j < k + 1) = (2 * j < k) := by simp; omega
  have b : (2 * j + 1 < k + 1) = (2 * j + 1 < k) := by simp; omega
  simp only [a, b]
/-- the bytes behind k samples of n: a head of four bytes, then the codes -/
def packAt (s : Int × Int) (zs : List Int) (k j : Nat) : Int :=
  if j = 0 then s.1 % 65536 / 256 else if j = 1 then s.1 % 256 else if j = 2 then s.2 else if j = 3 then 0 else part s zs k (j - 4)
theorem packAt_set (s : Int × Int) (zs : List Int) (k j : Nat) : packAt s zs (k + 1) j = if j = 4 + k / 2 then part s zs (k + 1) (k / 2) else packAt s zs k j := by
  by_cases h : j = 4 + k / 2
  · rw [if_pos h, h]
    unfold packAt
    rw [if_neg (by omega), if_neg (by omega), if_neg (by omega), if_neg (by omega), show 4 + k / 2 - 4 = k / 2 by omega]
  · rw [if_neg h]
    unfold packAt
    by_cases h4 : j < 4
    · have : j = 0 ∨ j = 1 ∨ j = 2 ∨ j = 3 := by omega
      rcases this with rfl | rfl | rfl | rfl <;> rfl
    · rw [part_other s zs k (j - 4) (by omega)]
theorem packAt_body (s : Int × Int) (zs : List Int) (k j : Nat) : packAt s zs k (4 + j) = part s zs k j := by
  unfold packAt
  rw [if_neg (by omega), if_neg (by omega), if_neg (by omega), if_neg (by omega), show 4 + j - 4 = j by omega]
def packB (s : Int × Int) (zs : List Int) : List Int := (List.range (4 + (zs.length + 1) / 2)).map (packAt s zs zs.length)
theorem packB_len (s : Int × Int) (zs : List Int) : (packB s zs).length = 4 + (zs.length + 1) / 2 := by simp [packB]
theorem packB_at (s : Int × Int) (zs : List Int) (j : Nat) (h : j < 4 + (zs.length + 1) / 2) : (packB s zs).getD j 0 = packAt s zs zs.length j := by
  simp [packB, List.getD_eq_getElem?_getD, List.getElem?_range h]
theorem packAt_bd (s : Int × Int) (hs : valid s.1 s.2 = true) (zs : List Int) (k j : Nat) : 0 ≤ packAt s zs k j ∧ packAt s zs k j ≤ 255 := by
  have h : -32768 ≤ s.1 ∧ s.1 ≤ 32767 ∧ 0 ≤ s.2 ∧ s.2 ≤ 88 := by simpa [valid, and_assoc] using hs
  have := part_bd s zs k (j - 4)
  unfold packAt
  (repeat' split) <;> omega
/-- the code k of a block -/
def nib (bs : List Int) (k : Nat) : Int := if k % 2 = 0 then bs.getD (4 + k / 2) 0 / 16 else bs.getD (4 + k / 2) 0 % 16
/-- the state behind the first k codes of a block -/
def dAt (s : Int × Int) (bs : List Int) : Nat → Int × Int
  | 0 => s
  | k + 1 => (nextV (dAt s bs k).1 (dAt s bs k).2 (nib bs k), nextI (dAt s bs k).2 (nib bs k))
theorem dAt_valid (s : Int × Int) (hs : valid s.1 s.2 = true) (bs : List Int) : ∀ k, valid (dAt s bs k).1 (dAt s bs k).2 = true
  | 0 => hs
  | _ + 1 => valid_next _ _ _
/-- the state of a block's head -/
def headS (bs : List Int) : Int × Int := ((256 * bs.getD 0 0 + bs.getD 1 0 + 32768) % 65536 - 32768, bs.getD 2 0)
def unpackL (bs : List Int) (n : Nat) : List Int := (List.range n).map fun k => (dAt (headS bs) bs (k + 1)).1
end Go.Proofs.YtahbecinkciahaaGreat.Dlt
/- Plain functions for layer 27 (compand): the codes of the two companding laws on integers, and what the statements ask of them; no program in sight. -/
namespace Go.Proofs.YtahbecinkciahaaGreat.Cmp
open Go.RowKit

/-- every number from b on, 2^k of them, has p -/
def all2 : Nat → Nat → (Nat → Bool) → Bool
  | 0, b, p => p b
  | k + 1, b, p => all2 k b p && all2 k (b + 2 ^ k) p
theorem all2_of {p : Nat → Bool} : ∀ {k b : Nat}, all2 k b p = true → ∀ n, b ≤ n → n < b + 2 ^ k → p n = true
  | 0, b, h, n, h1, h2 => by
    obtain rfl : n = b := by simp at h2; omega
    exact h
  | k + 1, b, h, n, h1, h2 => by
    simp only [all2, Bool.and_eq_true] at h
    by_cases hn : n < b + 2 ^ k
    · exact all2_of h.1 n h1 hn
    · exact all2_of h.2 n (by omega) (by rw [Nat.pow_succ] at h2; omega)

/-- what a run through all bytes shows -/
theorem byte_all {p : Nat → Prop} [DecidablePred p] (H : all2 8 0 (fun b => decide (p b)) = true) : ∀ b, b < 256 → p b :=
  fun b h => of_decide_eq_true (all2_of H b (by omega) (by omega))

/-- the e of m: the least one for which m is less than 2^(e+8), or 7 -/
def expo (m : Nat) : Nat :=
  if m < 256 then 0 else if m < 512 then 1 else if m < 1024 then 2 else if m < 2048 then 3 else if m < 4096 then 4 else if m < 8192 then 5 else if m < 16384 then 6 else 7
theorem expo_le (m : Nat) : expo m ≤ 7 := by unfold expo; (repeat' split) <;> omega

/-- the code of a magnitude (132 is added) by law 1, from the highest code of its sign on -/
def muRaw (top m : Nat) : Nat := top - 16 * expo m - m / 2 ^ (expo m + 3) % 16
def magMu (x : Int) : Nat := min x.natAbs 32635 + 132
/-- the code of a sample by law 1 -/
def mu (x : Int) : Nat := muRaw (if x < 0 then 127 else 255) (magMu x)
/-- the sample of a code by law 1 -/
def fromMu (b : Nat) : Int :=
  let c := 255 - b
  let v : Int := ((8 * (c % 16) + 132) * 2 ^ (c / 16 % 8) - 132 : Nat)
  if 128 ≤ c then -v else v
/-- the magnitude that law 2 codes -/
def magA (x : Int) : Nat := if x < 0 then (-x - 1).toNat else x.toNat
/-- the code of a sample by law 2, before the flip -/
def aRaw (s m : Nat) : Nat := s + 16 * expo m + m / 2 ^ (if expo m = 0 then 4 else expo m + 3) % 16
def aCode (x : Int) : Nat := aRaw (if x < 0 then 0 else 128) (magA x) ^^^ 85
/-- the sample of a code by law 2, behind the flip -/
def fromAc (c : Nat) : Int :=
  let v : Int := (if c / 16 % 8 = 0 then 16 * (c % 16) + 8 else (16 * (c % 16) + 264) * 2 ^ (c / 16 % 8 - 1) : Nat)
  if c < 128 then -v else v
def fromA (b : Nat) : Int := fromAc (b ^^^ 85)
/-- 2^n at an integer n -/
def pow2 (n : Int) : Int := 2 ^ n.toNat

theorem q16 (m : Int) (k : Nat) (h : 0 ≤ m) : (m / 2 ^ k).tmod 16 = ((m.toNat / 2 ^ k % 16 : Nat) : Int) := by
  obtain ⟨n, rfl⟩ := Int.eq_ofNat_of_zero_le h
  have : ((n : Int) / 2 ^ k) = ((n / 2 ^ k : Nat) : Int) := by simp
  rw [this, Int.toNat_natCast]
  generalize n / 2 ^ k = q
  rw [Int.tmod_eq_emod_of_nonneg (by omega)]
  omega
/-- how the walk of law 1's coder ends -/
theorem mu_close (x : Int) (top : Nat) (m : Int) (k : Nat) (ht : top = if x < 0 then 127 else 255) (hm : m = magMu x) (hk : k = expo m.toNat) :
    wrap64 ((top : Int) - 16 * (k : Int) - (m / 2 ^ (k + 3)).tmod 16) % 256 = (mu x : Nat) := by
  have h7 := expo_le m.toNat
  rw [q16 m (k + 3) (by rw [hm]; omega)]
  unfold mu muRaw
  rw [← ht]
  have e : m.toNat = magMu x := by rw [hm]; rfl
  rw [e] at hk h7 ⊢
  rw [← hk]
  have h16 : magMu x / 2 ^ (k + 3) % 16 < 16 := Nat.mod_lt _ (by omega)
  generalize magMu x / 2 ^ (k + 3) % 16 = q at h16 ⊢
  rw [← hk] at h7
  have ht' : 127 ≤ top ∧ top ≤ 255 := by rw [ht]; split <;> omega
  rw [IntWalk.wrap64_in _ ⟨by omega, by omega⟩]
  omega
theorem aRaw_lt (x : Int) : aRaw (if x < 0 then 0 else 128) (magA x) < 256 := by
  have := expo_le (magA x)
  unfold aRaw
  have : ∀ a b, a / b % 16 < 16 := fun _ _ => Nat.mod_lt _ (by omega)
  have h16 := this (magA x) (2 ^ (if expo (magA x) = 0 then 4 else expo (magA x) + 3))
  generalize magA x / 2 ^ (if expo (magA x) = 0 then 4 else expo (magA x) + 3) % 16 = q at h16 ⊢
  split <;> omega
/-- '^' of two bytes -/
theorem xor_u8 : ∀ c : Nat, c < 256 → bits .xor .u8 (c : Int) 85 = ((c ^^^ 85 : Nat) : Int) := by
  have h : all2 8 0 (fun c : Nat => decide (bits .xor .u8 (c : Int) 85 = ((c ^^^ 85 : Nat) : Int))) = true := by decide +kernel
  intro c hc
  exact of_decide_eq_true (all2_of h c (by omega) (by omega))
/-- how the walk of law 2's coder ends -/
theorem a_close (x : Int) (s : Nat) (m : Int) (k t : Nat) (hs : s = if x < 0 then 0 else 128) (hm : m = magA x) (hk : k = expo m.toNat) (ht : t = if k = 0 then 4 else k + 3) :
    wrap64 ((s : Int) + 16 * (k : Int) + (m / 2 ^ t).tmod 16) % 256 = (aRaw (if x < 0 then 0 else 128) (magA x) : Nat) := by
  have h7 := expo_le m.toNat
  rw [q16 m t (by rw [hm]; omega)]
  unfold aRaw
  rw [← hs]
  have e : m.toNat = magA x := by rw [hm]; rfl
  rw [e] at hk h7 ⊢
  rw [← hk, ← ht]
  rw [← hk] at h7
  have h16 : magA x / 2 ^ t % 16 < 16 := Nat.mod_lt _ (by omega)
  generalize magA x / 2 ^ t % 16 = q at h16 ⊢
  have ht' : s ≤ 128 := by rw [hs]; split <;> omega
  rw [IntWalk.wrap64_in _ ⟨by omega, by omega⟩]
  omega
/-- the same where the e is 0: the walk's other spelling -/
theorem a_close0 (x : Int) (s : Nat) (m : Int) (k : Nat) (hs : s = if x < 0 then 0 else 128) (hm : m = magA x) (hk : k = expo m.toNat) (h0 : k = 0) :
    (s : Int) + 16 * (k : Int) + m / 16 % 16 = (aRaw (if x < 0 then 0 else 128) (magA x) : Nat) := by
  unfold aRaw
  rw [← hs]
  have e : m.toNat = magA x := by rw [hm]; rfl
  rw [e] at hk
  rw [← hk, h0, hm]
  simp
theorem fromMu_bd : ∀ b, b < 256 → -32124 ≤ fromMu b ∧ fromMu b ≤ 32124 := byte_all (by decide +kernel)
theorem fromA_bd : ∀ b, b < 256 → -32256 ≤ fromA b ∧ fromA b ≤ 32256 := byte_all (by decide +kernel)
/-- the decoded magnitude of law 2 -/
def backA (m : Nat) : Nat := if expo m = 0 then 16 * (m / 2 ^ (if expo m = 0 then 4 else expo m + 3) % 16) + 8 else (16 * (m / 2 ^ (if expo m = 0 then 4 else expo m + 3) % 16) + 264) * 2 ^ (expo m - 1)
/-- the four maps on integers, as the slices are mapped -/
def muZ (x : Int) : Int := (mu x : Nat)
def aZ (x : Int) : Int := (aCode x : Nat)
def fromMuZ (b : Int) : Int := fromMu b.toNat
def fromAZ (b : Int) : Int := fromA b.toNat

end Go.Proofs.YtahbecinkciahaaGreat.Cmp
/- Plain functions for layer 32 (stream): ports, what is sent, received and played; no program in sight. -/
namespace Go.Proofs.YtahbecinkciahaaGreat
open Go.RowKit
set_option linter.unusedVariables false
def speechB (k : Int) : Bool := k == 0 || k == 8 || k == 96
theorem speechB_t {k : Int} (h : k = 0 ∨ k = 8 ∨ k = 96) : speechB k = true := by rcases h with rfl | rfl | rfl <;> rfl
theorem speechB_f {k : Int} (h : ¬(k = 0 ∨ k = 8 ∨ k = 96)) : speechB k = false := by
  have h0 : (k == 0) = false := by simp; omega
  have h1 : (k == 8) = false := by simp; omega
  have h2 : (k == 96) = false := by simp; omega
  unfold speechB
  rw [h0, h1, h2]; rfl
theorem speechB_iff {k : Int} : speechB k = true ↔ k = 0 ∨ k = 8 ∨ k = 96 := by
  refine ⟨fun h => ?_, speechB_t⟩
  rcases Classical.em (k = 0 ∨ k = 8 ∨ k = 96) with h1 | h1
  · exact h1
  · rw [speechB_f h1] at h; cases h
namespace Sb
/-- a port -/
structure Pt where
  codec : Int
  src : Int
  seq : Int
  time : Int
  mrk : Bool
  below : Int
  cv : Int
  ci : Int
  tn : Ev.Snd
  jt : Jb.Jt
  tk : Pk.Tr
  ht : Int
  st : Rep.St
  hd : Ev.Rcv
  seed : Int
  pk : Int
  oc : Int
def Pt.zero : Pt := ⟨0, 0, 0, 0, false, 0, 0, 0, Ev.Snd.zero, Jb.Jt.none, Pk.Tr.zero, 0, Rep.St.zero, ⟨false, 0, 0, 0, false⟩, 0, 0, 0⟩
/-- the track and its time are small -/
def Pt.near (p : Pt) : Prop := 0 ≤ p.tk.high ∧ p.tk.high ≤ 140737488355328 ∧ -1 ≤ p.tk.jump ∧ p.tk.jump ≤ 65535 ∧ -140737488355328 ≤ p.ht ∧ p.ht ≤ 140737488355328
instance (p : Pt) : Decidable p.near := by unfold Pt.near; infer_instance
def Pt.valid (p : Pt) : Bool := speechB p.codec && Dlt.valid p.cv p.ci && Jb.valid p.jt && p.tn.valid && decide p.near
/-- the fields have the widths of their types -/
structure Pt.wf (p : Pt) : Prop where
  codec : 0 ≤ p.codec ∧ p.codec ≤ 255
  src : 0 ≤ p.src ∧ p.src ≤ 4294967295
  seq : 0 ≤ p.seq ∧ p.seq ≤ 65535
  time : 0 ≤ p.time ∧ p.time ≤ 4294967295
  below : -9223372036854775808 ≤ p.below ∧ p.below ≤ 9223372036854775807
  tvol : 0 ≤ p.tn.vol ∧ p.tn.vol ≤ 255
  tcode : 0 ≤ p.tn.code ∧ p.tn.code ≤ 255
  tst : 0 ≤ p.tn.start ∧ p.tn.start ≤ 4294967295
  seed : 0 ≤ p.seed ∧ p.seed ≤ 4294967295
  pk : 0 ≤ p.pk ∧ p.pk ≤ 4294967295
  oc : 0 ≤ p.oc ∧ p.oc ≤ 4294967295
def new (codec src l m : Int) : Pt × Int :=
  if speechB codec = false then (Pt.zero, 15) else if Jb.cfg l m then ({ Pt.zero with codec := codec, src := src, mrk := true, jt := (Jb.new l m).1, seed := src }, 0) else (Pt.zero, 3)
/-- a packet that is sent -/
structure Pkt where
  mrk : Bool
  ty : Int
  sq : Int
  ti : Int
  src : Int
  pl : List Int
def emit (p : Pt) (ty ti : Int) (mk : Bool) (pl : List Int) : Pt × Pkt :=
  ({ p with seq := (p.seq + 1) % 65536, pk := (p.pk + 1) % 4294967296, oc := (p.oc + pl.length) % 4294967296 }, ⟨mk, ty, p.seq, ti, p.src, pl⟩)
/-- the bytes of a frame, and the coder behind it -/
def enc (c : Int) (s : Int × Int) (zs : List Int) : List Int × (Int × Int) :=
  if c = 0 then (zs.map Cmp.muZ, s) else if c = 8 then (zs.map Cmp.aZ, s) else (Dlt.packB s zs, Dlt.stAt s zs zs.length)
def later (t : Int) : Int := (t + 160) % 4294967296
/-- Send of a valid port -/
def send0 (p : Pt) (zs : List Int) : Pt × List Pkt :=
  if p.tn.on = true ∨ p.tn.ends ≠ 0 then
    let x := Ev.next p.tn 160
    let r := emit { p with tn := x.s } 101 x.o.time x.o.marker (Ev.encT x.o.tone.code x.o.tone.fin x.o.tone.vol x.o.tone.dur).1
    ({ r.1 with below := 0, mrk := true, time := later p.time }, [r.2])
  else if Ev.quiet p.below zs = 10 then
    if p.below < 10 then
      let r := emit p 13 p.time false [Ev.lev zs]
      ({ r.1 with below := Ev.quiet p.below zs, mrk := true, time := later p.time }, [r.2])
    else ({ p with below := Ev.quiet p.below zs, mrk := true, time := later p.time }, [])
  else
    let b := enc p.codec (p.cv, p.ci) zs
    let r := emit { p with below := Ev.quiet p.below zs } p.codec p.time p.mrk b.1
    ({ r.1 with mrk := false, cv := b.2.1, ci := b.2.2, time := later p.time }, [r.2])
def send (p : Pt) (zs : List Int) : Pt × List Pkt × Int :=
  if p.valid = true ∧ zs.length = 160 then ((send0 p zs).1, (send0 p zs).2, 0) else (Pt.zero, [], 2)
def press (p : Pt) (code : Int) : Pt × Int :=
  if p.valid = false then (Pt.zero, 2) else if 15 < code then (Pt.zero, 3) else
    if (Ev.press p.tn code 10 p.time).2 = 0 then ({ p with tn := (Ev.press p.tn code 10 p.time).1 }, 0) else (Pt.zero, (Ev.press p.tn code 10 p.time).2)
def release (p : Pt) : Pt × Int :=
  if p.valid = false then (Pt.zero, 2) else if (Ev.release p.tn).2 = 0 then ({ p with tn := (Ev.release p.tn).1 }, 0) else (Pt.zero, (Ev.release p.tn).2)
/-- the samples of a speech payload; n is their number for the delta codec -/
def Dlt.fits (bs : List Int) (n : Nat) : Prop := bs.length = 4 + (n + 1) / 2 ∧ bs.getD 2 0 ≤ 88 ∧ bs.getD 3 0 = 0 ∧ (n % 2 = 1 → bs.getD (bs.length - 1) 0 % 16 = 0)
instance (bs : List Int) (n : Nat) : Decidable (Dlt.fits bs n) := by unfold Dlt.fits; infer_instance
def decS (c : Int) (pl : List Int) : List Int :=
  if c = 0 then pl.map Cmp.fromMuZ else if c = 8 then pl.map Cmp.fromAZ else if c = 96 then (if Dlt.fits pl 160 then Dlt.unpackL pl 160 else []) else []
/-- the samples of a payload, and the seed behind it -/
def dec (c : Int) (pl : List Int) (seed : Int) : List Int × Int :=
  if c = 13 then (if pl.length = 1 then ((Ev.noise (pl.getD 0 0) seed 160).1, (Ev.noise (pl.getD 0 0) seed 160).2.1) else ([], seed)) else (decS c pl, seed)
/-- a sound -/
structure Sd where
  at_ : Int
  zs : List Int
  ks : List Ev.Key
def sounds : Int → List Jb.Wt → Int × List Sd
  | s, [] => (s, [])
  | s, a :: l => ((sounds (dec a.m.ty a.m.pl s).2 l).1, ⟨a.at_, (dec a.m.ty a.m.pl s).1, []⟩ :: (sounds (dec a.m.ty a.m.pl s).2 l).2)
def chkT (p : Pt) (now : Int) : Int := if p.valid = false ∨ 281474976710656 < now then 2 else if now < p.jt.now then 9 else 0
/-- what is due is played -/
def run (p : Pt) (now : Int) : Pt × List Sd :=
  ({ p with jt := (Jb.run p.jt now).1, seed := (sounds p.seed (Jb.run p.jt now).2.1).1 }, (sounds p.seed (Jb.run p.jt now).2.1).2)
def play (p : Pt) (now : Int) : Pt × List Sd × Int := if chkT p now = 0 then ((run p now).1, (run p now).2, 0) else (Pt.zero, [], chkT p now)
/-- a packet that arrives -/
structure Arr where
  mrk : Bool
  ty : Int
  sq : Int
  ti : Int
  pl : List Int
def known (x : Arr) : Bool := speechB x.ty || x.ty == 13 || (x.ty == 101 && (Ev.decT x.pl).2 == 0)
def time (p : Pt) (x : Arr) : Int := if p.tk.on = true then Pk.near p.ht x.ti 4294967296 else x.ti
/-- Receive at a valid port and a time that is not too early -/
def recv0 (p : Pt) (now : Int) (x : Arr) : Pt × Int × List Sd :=
  if known x = false then ((run p now).1, 6, (run p now).2) else
  let f := Pk.follow p.tk x.sq
  let p1 : Pt := { p with tk := f.1 }
  if f.2.2 = false then ((run p1 now).1, 6, (run p1 now).2) else
  if x.ty = 101 then
    let h := Ev.hear p.hd x.ti (Ev.decT x.pl).1
    let r := run p1 now
    ({ r.1 with hd := h.1 }, 1, r.2 ++ (if h.2 = [] then [] else [⟨now, [], h.2⟩]))
  else
    let t := time p x
    let p2 : Pt := { p1 with ht := if p.tk.on = false ∨ p.ht < t then t else p.ht, st := Rep.arrive p.st f.2.1 (8 * now) t }
    let j := Jb.put p.jt now ⟨f.2.1, t, x.mrk, x.ty, x.pl⟩
    ({ p2 with jt := j.1, seed := (sounds p.seed j.2.1).1 }, j.2.2.1, (sounds p.seed j.2.1).2)
def recv (p : Pt) (now : Int) (x : Arr) : Pt × Int × List Sd × Int :=
  if chkT p now = 2 ∨ 1500 < x.pl.length then (Pt.zero, 0, [], 2) else if chkT p now = 9 then (Pt.zero, 0, [], 9) else ((recv0 p now x).1, (recv0 p now x).2.1, (recv0 p now x).2.2, 0)
def report (p : Pt) (source last delay : Int) : Rep.Bk × Pt × Int :=
  if p.valid = false then (Rep.Bk.zero, Pt.zero, 2) else ((Rep.summary p.st source last delay).1, { p with st := (Rep.summary p.st source last delay).2 }, 0)
end Sb
end Go.Proofs.YtahbecinkciahaaGreat
/- Words for slices of integers in memory, over any world: what a slice holds, and that it stays so where only new memory is written. -/
namespace Go.Proofs.YtahbecinkciahaaGreat
open Go.RowKit

/-- The numbers zs (of kind k) lie at the slice address A, in a block below B. -/
def IntsAt (w : World) (B : Nat) (k : IntKind) (A : Option Addr) (zs : List Int) : Prop :=
  0 < zs.length → ∃ b off, A = some ⟨b, off, none⟩ ∧ b < B ∧ ∀ i, i < zs.length → w.cell? ⟨b, off + i, none⟩ = some (.int k (zs.getD i 0))
/-- Every number of zs lies from lo to hi. -/
def Within (lo hi : Int) (zs : List Int) : Prop := ∀ z ∈ zs, lo ≤ z ∧ z ≤ hi

theorem Within.at {lo hi : Int} {zs : List Int} (h : Within lo hi zs) {i : Nat} (hi' : i < zs.length) : lo ≤ zs.getD i 0 ∧ zs.getD i 0 ≤ hi := by
  rw [List.getD_eq_getElem?_getD, List.getElem?_eq_getElem hi']
  exact h _ (List.getElem_mem hi')
theorem Within.nil (lo hi : Int) : Within lo hi [] := fun _ h => by cases h
theorem Within.append {lo hi : Int} {a b : List Int} (ha : Within lo hi a) (hb : Within lo hi b) : Within lo hi (a ++ b) :=
  fun z hz => (List.mem_append.1 hz).elim (ha z) (hb z)
theorem Within.take {lo hi : Int} {a : List Int} (h : Within lo hi a) (n : Nat) : Within lo hi (a.take n) := fun z hz => h z (List.mem_of_mem_take hz)
theorem Within.drop {lo hi : Int} {a : List Int} (h : Within lo hi a) (n : Nat) : Within lo hi (a.drop n) := fun z hz => h z (List.mem_of_mem_drop hz)

section
variable {w w' : World} {B B' : Nat} {k : IntKind} {A : Option Addr} {zs : List Int}
theorem IntsAt.nil : IntsAt w B k A [] := fun h => absurd h (by simp)
theorem IntsAt.at (h : IntsAt w B k A zs) (h0 : 0 < zs.length) : ∃ b off, A = some ⟨b, off, none⟩ ∧ b < B ∧ ∀ i, i < zs.length → w.cell? ⟨b, off + i, none⟩ = some (.int k (zs.getD i 0)) := h h0
theorem IntsAt.keep (h : IntsAt w B k A zs) (hk : ∀ p : Addr, p.block < B → w'.cell? p = w.cell? p) : IntsAt w' B k A zs := fun h0 => by
  obtain ⟨b, off, rfl, hb, hc⟩ := h h0
  exact ⟨b, off, rfl, hb, fun i hi => (hk _ hb).trans (hc i hi)⟩
theorem IntsAt.more (h : IntsAt w B k A zs) (hB : B ≤ B') : IntsAt w B' k A zs := fun h0 => by
  obtain ⟨b, off, rfl, hb, hc⟩ := h h0
  exact ⟨b, off, rfl, by omega, hc⟩
theorem IntsAt.below (h : IntsAt w B k A zs) (hb : Below B w w') : IntsAt w' B k A zs := h.keep fun _ hp => hb.cell hp
/-- the same in a later world, below whatever has been made by then -/
theorem IntsAt.later (h : IntsAt w w.heap.size k A zs) (hb : Below w.heap.size w w') : IntsAt w' w'.heap.size k A zs := (h.below hb).more hb.size
theorem IntsAt.drew (h : IntsAt w B k A zs) : IntsAt w.drew B k A zs := h
theorem IntsAt.drewN (h : IntsAt w B k A zs) (n : Nat) : IntsAt (w.drewN n) B k A zs := h
theorem IntsAt.alloc (h : IntsAt w B k A zs) (hB : B ≤ w.heap.size) (o : Obj) : IntsAt (w.alloc o) B k A zs := h.keep fun p hp => World.cell?_alloc_lt w o p (by omega)
theorem IntsAt.setCell (h : IntsAt w B k A zs) {p : Addr} (hB : B ≤ p.block) (u : Value) : IntsAt (w.setCell p u) B k A zs :=
  h.keep fun q hq => World.cell?_setCell_other w p q u (fun e => by subst e; omega)
/-- a part from n on -/
theorem IntsAt.drop (h : IntsAt w B k A zs) (n : Nat) (hn : n < zs.length) : ∃ b off, A = some ⟨b, off, none⟩ ∧ IntsAt w B k (some ⟨b, off + n, none⟩) (zs.drop n) := by
  obtain ⟨b, off, rfl, hb, hc⟩ := h (by omega)
  refine ⟨b, off, rfl, fun _ => ⟨b, off + n, rfl, hb, fun i hi => ?_⟩⟩
  have hi' : n + i < zs.length := by simp at hi; omega
  have := hc (n + i) hi'
  rw [Nat.add_assoc]
  rw [this]
  simp [List.getD_eq_getElem?_getD]
theorem IntsAt.take (h : IntsAt w B k A zs) (n : Nat) : IntsAt w B k A (zs.take n) := fun h0 => by
  obtain ⟨b, off, rfl, hb, hc⟩ := h (by simp at h0; omega)
  refine ⟨b, off, rfl, hb, fun i hi => ?_⟩
  have hi' : i < n ∧ i < zs.length := by simp at hi; omega
  rw [hc i hi'.2]
  simp [List.getD_eq_getElem?_getD, hi'.1]
/-- what the call owns reads as a slice of integers -/
theorem IntsAt.of_own {base : Nat} {e : TypeId} {n c : Nat} (h : w.ownsRow base e 1 (.slice A n c) n (zs.map (Value.int k))) : IntsAt w w.heap.size k A zs := fun h0 => by
  have hn : zs.length = n := by have := h.1; simpa using this
  obtain ⟨g, cap, hv, _, hlt⟩ := h.form (by omega)
  have hA : A = some ⟨g, 0, none⟩ := by injection hv
  subst hA
  refine ⟨g, 0, rfl, hlt, fun i hi => ?_⟩
  have hc := h.cells (g := g) rfl i (.int k (zs.getD i 0)) (by rw [List.getElem?_map, List.getD_eq_getElem?_getD, List.getElem?_eq_getElem hi]; rfl)
  rw [← hc]
  by_cases h0 : i = 0
  · subst h0; rfl
  · simp [Addr.add, h0]
end
/-- an own row reads as a slice of integers -/
theorem IntsAt.of_row {w : World} {b n : Nat} {t : TypeId} {k : IntKind} {f : Nat → Value} {zs : List Int} (h : w.rowIs b t n f) (hn : zs.length ≤ n) (hf : ∀ i, i < zs.length → f i = .int k (zs.getD i 0)) :
    IntsAt w w.heap.size k (some ⟨b, 0, none⟩) zs := fun _ =>
  ⟨b, 0, rfl, h.lt, fun i hi => by rw [Nat.zero_add, h.cell (by omega), hf i hi]⟩
/-- a row that is filled from the left: one more -/
theorem rowIs_fill {w : World} {b n k : Nat} {t : TypeId} {K : IntKind} {g : Nat → Int} (h : w.rowIs b t n (fun j => .int K (if j < k then g j else 0))) :
    (w.setCell ⟨b, k, none⟩ (.int K (g k))).rowIs b t n (fun j => .int K (if j < k + 1 then g j else 0)) := by
  refine (h.set k _).congr fun i _ => ?_
  by_cases e : i = k
  · subst e; simp
  · simp only [e, if_false]
    by_cases e2 : i < k
    · rw [if_pos e2, if_pos (by omega)]
    · rw [if_neg e2, if_neg (by omega)]
/-- a row that has been filled -/
theorem IntsAt.of_fill {w : World} {b : Nat} {t : TypeId} {K : IntKind} {f : Int → Int} {zs : List Int} (h : w.rowIs b t zs.length (fun j => .int K (if j < zs.length then f (zs.getD j 0) else 0))) :
    IntsAt w w.heap.size K (some ⟨b, 0, none⟩) (zs.map f) := by
  refine IntsAt.of_row h (by simp) fun i hi => ?_
  have hi' : i < zs.length := by simpa using hi
  rw [if_pos hi']
  simp [List.getD_eq_getElem?_getD, List.getElem?_eq_getElem hi']
theorem rowIs_below {w w' : World} {B b n : Nat} {t : TypeId} {f : Nat → Value} (h : w.rowIs b t n f) (hb : Below B w w') (hB : b < B) : w'.rowIs b t n f := h.of_block (hb.block b hB)
theorem Blk_cell (w : World) (cs : List Value) (t : TypeId) (j : Nat) : (w.alloc (.cells cs.toArray t)).cell? ⟨w.heap.size, j, none⟩ = cs[j]? := by
  have h : (w.alloc (.cells cs.toArray t)).heap[w.heap.size]? = some (.cells cs.toArray t (0, 0)) := by
    show (w.heap.push _)[w.heap.size]? = _
    simp
  rw [cell_of_row _ w.heap.size j cs.toArray t (0, 0) h]
  simp
/-- what a contract leaves of old memory, in the walk's two rules -/
theorem bcell {W w1 : World} (hb : Below W.heap.size W w1) : (∀ b o, b < W.heap.size → w1.cell? ⟨b, o, none⟩ = W.cell? ⟨b, o, none⟩) ∧ (∀ b o, b < W.heap.size → w1.frozen? ⟨b, o, none⟩ = W.frozen? ⟨b, o, none⟩) :=
  ⟨fun b o h => hb.cell (p := ⟨b, o, none⟩) h, fun b o h => hb.frozen (p := ⟨b, o, none⟩) h⟩

/-- The slice (address A, length n, capacity c) that the call itself appends to owns the cells xs, in a block from base on. -/
def Owns (w : World) (base : Nat) (e : TypeId) (size : Nat) (A : Option Addr) (n c : Nat) (xs : List Value) : Prop := w.ownsRow base e size (.slice A n c) n xs
/-- the block of such a slice -/
def ownB (A : Option Addr) : Option Nat := A.map (·.block)
section
variable {w w' : World} {base size n c B : Nat} {e : TypeId} {A : Option Addr} {xs : List Value}
theorem ownB_eq : (Value.slice A n c).ownBlock = ownB A := by cases A <;> rfl
theorem Owns.nil : Owns w base e size none 0 0 [] := World.ownsRow_nil _ _ _ _
theorem Owns.form (h : Owns w base e size A n c xs) (hn : 0 < n) : ∃ g, A = some ⟨g, 0, none⟩ ∧ base ≤ g ∧ g < w.heap.size := by
  obtain ⟨g, cap, hv, hb, hlt⟩ := World.ownsRow.form h hn
  injection hv with hA _ _
  exact ⟨g, hA, hb, hlt⟩
theorem Owns.block (h : Owns w base e size A n c xs) : ∀ g, ownB A = some g → base ≤ g ∧ g < w.heap.size := by
  intro g hg
  rcases h.2 with ⟨hv, _⟩ | ⟨g', cap, cur, hv, hb, hh, _⟩
  · injection hv with hA _ _
    subst hA
    cases hg
  · injection hv with hA _ _
    subst hA
    injection hg with hg
    subst hg
    exact ⟨hb, (Array.getElem?_eq_some_iff.1 hh).1⟩
theorem Owns.of_block (h : Owns w base e size A n c xs) (hk : ∀ g, ownB A = some g → w'.heap[g]? = w.heap[g]?) : Owns w' base e size A n c xs := by
  refine ⟨h.1, ?_⟩
  rcases h.2 with h2 | ⟨g', cap, cur, hv, hb, hh, r⟩
  · exact .inl h2
  · refine .inr ⟨g', cap, cur, hv, hb, ?_, r⟩
    injection hv with hA _ _
    subst hA
    rw [hk g' rfl]
    exact hh
theorem Owns.below (h : Owns w base e size A n c xs) (hb : Below w.heap.size w w') : Owns w' base e size A n c xs := h.of_block fun g hg => hb.block g (h.block g hg).2
theorem Owns.alloc (h : Owns w base e size A n c xs) (o : Obj) : Owns (w.alloc o) base e size A n c xs := h.of_block fun g hg => Below.heap_alloc w o g (h.block g hg).2
theorem Owns.drew (h : Owns w base e size A n c xs) : Owns w.drew base e size A n c xs := h
theorem Owns.setCell (h : Owns w base e size A n c xs) {p : Addr} (hp : ∀ g, ownB A = some g → g ≠ p.block) (u : Value) : Owns (w.setCell p u) base e size A n c xs :=
  h.of_block fun g hg => Below.heap_setCell w p u g (hp g hg)
theorem Owns.grown (h : Owns w base e size A n c xs) {row : Option Nat} (hg : w.grownBy w' row) (hr : ∀ g, ownB A = some g → row ≠ some g) : Owns w' base e size A n c xs :=
  h.of_block fun g hg' => hg.block g (h.block g hg').2 fun e => hr g hg' e.symm
theorem Owns.ints {k : IntKind} {zs : List Int} (h : Owns w base e 1 A n c (zs.map (Value.int k))) : IntsAt w w.heap.size k A zs := IntsAt.of_own h
theorem below_own {a : World} (h : Below B a w) (ho : Owns w base e size A n c xs) (hg : w.grownBy w' (ownB A)) (hB : B ≤ w.heap.size) (hb : B ≤ base) : Below B a w' :=
  h.grown hg hB fun g e => by have := (ho.block g e).1; omega
end
/-- 'out = append(out, x)' of one element (its cells cs lie in a new block of their own), out the call's own. -/
theorem wpList_append_one {P : Program} {w0 : World} {ops : Array Oper} {rest : List Oper} {o : Oper} {a : Act} {Q : Exit → Act → World → Prop} (hgd : o.guard = none) (s x : Operand) (t : TypeId)
    (ho : o.op = .call { callee := .builtin .append, args := #[s, x], argTypes := #[t, t] })
    (base : Nat) (e : TypeId) (size bytes : Nat) (z : Value) (ht : P.underlying t = some (.slice e)) (hinfo : (P.info? e).map (fun i => (i.zero, i.size, i.bytes)) = some (some z, size, bytes))
    (hzs : z.cells.size = size) (hsz : 0 < size) (A : Option Addr) (n c : Nat) (xs : List Value) (hs : a.eval s = .slice A n c) (hown : Owns w0 base e size A n c xs)
    (cs : List Value) (hl : cs.length = size) (h1 : ∀ u ∈ cs, u.oneCell' = true) (hx : a.eval x = .slice (some ⟨w0.heap.size, 0, none⟩) 1 1)
    (h63 : n + 1 ≤ maxLen) (hbytes : (n + 1) * bytes ≤ 140737488355328) (hbase : base ≤ w0.heap.size)
    (h : ∀ (A' : Option Addr) (c' : Nat) (w' : World), Owns w' base e size A' (n + 1) c' (xs ++ cs) → w0.grownBy w' (ownB A) → w0.heap.size < w'.heap.size →
      wpList P ops Q rest (a.put o.dst (.slice A' (n + 1) c')) w') : wpList P ops Q (o :: rest) a (w0.alloc (.cells cs.toArray e)) := by
  obtain ⟨i, hi, hz0, hz1, hz2⟩ := info_parts hinfo
  refine wpList_append_lies (w0.alloc (.cells cs.toArray e)) hgd s x t ho base e i z size bytes ht hi hz0 hz1 hz2 hzs hsz _ n xs hs (hown.alloc _) ⟨w0.heap.size, 0, none⟩ 1 1 cs hx (by omega) ?_ h1 (by omega) h63 hbytes (by simp; omega) _ rfl ?_
  · intro j u hu
    have hc := Blk_cell w0 cs e j
    rw [← hu, ← hc]
    by_cases h0 : j = 0
    · subst h0; rfl
    · simp [Addr.add, h0]
  · intro g cap w' hown' hg _ hlt
    rw [ownB_eq] at hg
    have hsz' := hg.size
    refine h _ _ w' hown' ⟨hg.os, hg.tape, hg.output, Nat.le_trans (by simp) hsz', fun k hk hne => (hg.block k (by simp; omega) hne).trans (Below.heap_alloc w0 _ k hk)⟩ ?_
    simp at hsz'
    omega
/-- 'string(b)' of a slice of bytes, empty or not -/
theorem run_convert_ints {P : Program} {w : World} {B : Nat} {A : Option Addr} {zs : List Int} (h : IntsAt w B .u8 A zs) (src dst e : TypeId) (hs : P.underlying src = some (.slice e)) (he : P.underlying e = some (.int .u8)) (hd : P.underlying dst = some .string)
    (n c : Nat) (hn : zs.length = n) : (convert src dst (.slice A n c)).run P w = .ok (.string (strOfNums zs)) w := by
  subst hn
  rcases Nat.eq_zero_or_pos zs.length with h0 | h0
  · obtain rfl := List.eq_nil_of_length_eq_zero h0
    rcases A with _ | a
    · rw [run_convert_bytes_nil w src e hs he _ _ dst hd]; rfl
    · rw [run_convert_bytes_string w src dst e _ _ c hs he hd, run_bytesToString w a _ c [] (by simpa using run_loadCells_list (P := P) w a [] (by simp))]
      rfl
  · obtain ⟨b, off, rfl, _, hc⟩ := h h0
    exact run_convert_bytes_arg w src e hs he b off _ c zs rfl hc dst hd
end Go.Proofs.YtahbecinkciahaaGreat
/- What a function's results read as where some of them lie in memory, shape by shape (c: a result in a cell, t: in a slot). -/
namespace Go.Proofs.YtahbecinkciahaaGreat
theorem res_c {P : Program} {fn : Func} {w : World} {tmps : Array Value} {p0 : Tmp} {y0 : TypeId} {a0 : Addr} {v0 : Value} (h : fn.results = #[.cell p0 y0]) (ha0 : tmps.getD p0 undef = .pointer (some a0)) (hl0 : (loadVar y0 a0).run P w = .ok v0 w) :
    (results fn tmps).run P w = .ok (v0) w := by
  simp only [Array.getD_eq_getD_getElem?] at ha0
  simp only [results, h]
  first | (simp [asAddr, ha0, hl0]; done) | (simp [Result.andThen, asAddr, ha0, hl0]; done) | (simp [Sem.run_bind, Result.andThen, asAddr, ha0, hl0]; done)
theorem res_ct {P : Program} {fn : Func} {w : World} {tmps : Array Value} {p0 : Tmp} {y0 : TypeId} {a0 : Addr} {v0 : Value} {u1 : Tmp} {v1 : Value} (h : fn.results = #[.cell p0 y0, .tmp u1]) (ha0 : tmps.getD p0 undef = .pointer (some a0)) (hl0 : (loadVar y0 a0).run P w = .ok v0 w) (ht1 : tmps.getD u1 undef = v1) :
    (results fn tmps).run P w = .ok (.tuple #[v0, v1]) w := by
  simp only [Array.getD_eq_getD_getElem?] at ha0 ht1
  simp only [results, h]
  first | (simp [asAddr, ha0, hl0, ht1]; done) | (simp [Result.andThen, asAddr, ha0, hl0, ht1]; done) | (simp [Sem.run_bind, Result.andThen, asAddr, ha0, hl0, ht1]; done)
theorem res_tct {P : Program} {fn : Func} {w : World} {tmps : Array Value} {u0 : Tmp} {v0 : Value} {p1 : Tmp} {y1 : TypeId} {a1 : Addr} {v1 : Value} {u2 : Tmp} {v2 : Value} (h : fn.results = #[.tmp u0, .cell p1 y1, .tmp u2]) (ht0 : tmps.getD u0 undef = v0) (ha1 : tmps.getD p1 undef = .pointer (some a1)) (hl1 : (loadVar y1 a1).run P w = .ok v1 w) (ht2 : tmps.getD u2 undef = v2) :
    (results fn tmps).run P w = .ok (.tuple #[v0, v1, v2]) w := by
  simp only [Array.getD_eq_getD_getElem?] at ht0 ha1 ht2
  simp only [results, h]
  first | (simp [asAddr, ht0, ha1, hl1, ht2]; done) | (simp [Result.andThen, asAddr, ht0, ha1, hl1, ht2]; done) | (simp [Sem.run_bind, Result.andThen, asAddr, ht0, ha1, hl1, ht2]; done)
theorem res_ctt {P : Program} {fn : Func} {w : World} {tmps : Array Value} {p0 : Tmp} {y0 : TypeId} {a0 : Addr} {v0 : Value} {u1 : Tmp} {v1 : Value} {u2 : Tmp} {v2 : Value} (h : fn.results = #[.cell p0 y0, .tmp u1, .tmp u2]) (ha0 : tmps.getD p0 undef = .pointer (some a0)) (hl0 : (loadVar y0 a0).run P w = .ok v0 w) (ht1 : tmps.getD u1 undef = v1) (ht2 : tmps.getD u2 undef = v2) :
    (results fn tmps).run P w = .ok (.tuple #[v0, v1, v2]) w := by
  simp only [Array.getD_eq_getD_getElem?] at ha0 ht1 ht2
  simp only [results, h]
  first | (simp [asAddr, ha0, hl0, ht1, ht2]; done) | (simp [Result.andThen, asAddr, ha0, hl0, ht1, ht2]; done) | (simp [Sem.run_bind, Result.andThen, asAddr, ha0, hl0, ht1, ht2]; done)
theorem res_cttt {P : Program} {fn : Func} {w : World} {tmps : Array Value} {p0 : Tmp} {y0 : TypeId} {a0 : Addr} {v0 : Value} {u1 : Tmp} {v1 : Value} {u2 : Tmp} {v2 : Value} {u3 : Tmp} {v3 : Value} (h : fn.results = #[.cell p0 y0, .tmp u1, .tmp u2, .tmp u3]) (ha0 : tmps.getD p0 undef = .pointer (some a0)) (hl0 : (loadVar y0 a0).run P w = .ok v0 w) (ht1 : tmps.getD u1 undef = v1) (ht2 : tmps.getD u2 undef = v2) (ht3 : tmps.getD u3 undef = v3) :
    (results fn tmps).run P w = .ok (.tuple #[v0, v1, v2, v3]) w := by
  simp only [Array.getD_eq_getD_getElem?] at ha0 ht1 ht2 ht3
  simp only [results, h]
  first | (simp [asAddr, ha0, hl0, ht1, ht2, ht3]; done) | (simp [Result.andThen, asAddr, ha0, hl0, ht1, ht2, ht3]; done) | (simp [Sem.run_bind, Result.andThen, asAddr, ha0, hl0, ht1, ht2, ht3]; done)
/-- min and max of two integers, so that the walk does not part on them: 'attribute [local go_sem ↓] run_min_plain run_max_plain' -/
theorem run_min_plain {P : Program} {w : World} (ts : Array TypeId) (t : TypeId) (k : IntKind) (x y : Int) : (Builtin.min_ ts t #[.int k x, .int k y]).run P w = .ok (.int k (min x y)) w := by
  rw [run_min_int2]; congr 2; split <;> omega
theorem run_max_plain {P : Program} {w : World} (ts : Array TypeId) (t : TypeId) (k : IntKind) (x y : Int) : (Builtin.max_ ts t #[.int k x, .int k y]).run P w = .ok (.int k (max x y)) w := by
  rw [run_max_int2]; congr 2; split <;> omega
/-- draws outermost, so that the walk sees the cells behind them: 'attribute [local go_sem] setCell_drewN alloc_drewN' -/
theorem setCell_drewN {w : World} {n : Nat} {a : Addr} {v : Value} : (w.drewN n).setCell a v = (w.setCell a v).drewN n := rfl
theorem alloc_drewN {w : World} {n : Nat} {o : Obj} : (w.drewN n).alloc o = (w.alloc o).drewN n := rfl
end Go.Proofs.YtahbecinkciahaaGreat
/- Layer 28: sizes returns the array of the steps; Size of the program and of the reference. -/
namespace Go.Proofs.YtahbecinkciahaaGreat
open Go.RowKit
set_option linter.unusedVariables false
theorem ret_int' {k : IntKind} {a b : Int} (h : a = b) : Ending.returned (.int k a) = .returned (.int k b) := by rw [h]
theorem zero89 (w : World) : (zeroValue 198).run Tryz.prog w = .ok (.agg Dlt.zeroA) w := by kernel_rfl
theorem info89 : (Tryz.prog.info? 198).map (·.size) = some 89 := by kernel_rfl
theorem info89' : (Tryz.prog.info? 198).map (·.size) = some Dlt.szL.length := by rw [Dlt.szL_len]; exact info89
theorem info89'' : (Tryz.prog.info? 198).map (·.size) = some Dlt.szL.toArray.size := by
  have e89 : Dlt.szL.toArray.size = 89 := by simp [Dlt.szL]
  rw [e89]; exact info89
theorem below_setCells {B : Nat} {a : World} {b : Nat} (hb : B ≤ b) : ∀ (vs : List Value) (o : Nat) (w : World), Below B a w → Below B a (w.setCells b o vs)
  | [], _, _, h => h
  | v :: r, o, w, h => by
    rw [World.setCells]
    exact below_setCells hb r (o + 1) _ (h.setCell (p := ⟨b, o, none⟩) hb v)
set_option maxRecDepth 100000 in
set_option maxHeartbeats 400000 in
theorem sizesNext (b : Nat) (s : Int) (w : World) (hc : w.cell? ⟨b, 0, none⟩ = some (.int .i64 s)) (hf : w.frozen? ⟨b, 0, none⟩ = false) (h0 : 7 ≤ s) (h1 : s ≤ 32767) :
    Calls Tryz.prog 162 #[.pointer (some ⟨b, 0, none⟩)] w fun e w' => e = .returned (.int .i64 s) ∧ w.setCell ⟨b, 0, none⟩ (.int .i64 (min (s + (s + 5) / 10) 32767)) = w' := by
  by_cases h : 32767 < s + (s + 5) / 10
  · go_enter Tryz.func162, Tryz.ntmps162
    go_wp2
    go_ret
    refine ⟨rfl, ?_⟩
    congr 2
    omega
  · go_enter Tryz.func162, Tryz.ntmps162
    go_wp2
    go_ret
    refine ⟨rfl, ?_⟩
    congr 2
    omega
theorem zeroRow (w : World) : (w.alloc (.cells Dlt.zeroA 198)).rowIs w.heap.size 198 89 (fun _ => .int .i64 0) := by
  have h := World.rowIs_alloc w Dlt.zeroA 198 (fun _ => .int .i64 0) (fun i hi => by
    have : i < 89 := by simpa [Dlt.zeroA] using hi
    simp [Dlt.zeroA, this])
  have e : Dlt.zeroA.size = 89 := by simp [Dlt.zeroA]
  rwa [e] at h
/-- an own row of 89 steps, as a range -/
theorem row_range {w : World} {b : Nat} {t : TypeId} (h : w.rowIs b t 89 (fun j => .int .i64 (if j < 89 then Dlt.st j else 0))) : w.rangeAt b 0 Dlt.szL := fun j v hv => by
  have hj : j < 89 := by have := (List.getElem?_eq_some_iff.1 hv).1; rwa [Dlt.szL_len] at this
  rw [Nat.zero_add, h.cell hj, if_pos hj]
  rw [Dlt.szL_at j hj] at hv
  exact hv
theorem row_there {w : World} {b n : Nat} {t : TypeId} {f : Nat → Value} (h : w.rowIs b t n f) : w.there b 0 n := fun j hj => by
  rw [Nat.zero_add]
  exact ⟨by rw [h.cell hj]; rfl, h.frozen j⟩
/-- what the walk of sizes does: the array is filled and copied into the result -/
def SizesEnd (w : World) (e : Ending) (w' : World) : Prop := e = .returned (.agg Dlt.szA) ∧ Below w.heap.size w w'
set_option maxRecDepth 100000 in
set_option maxHeartbeats 800000 in
theorem sizes_end (w : World) : Calls Tryz.prog 141 #[] w (SizesEnd w) := by
  have hz := zero89
  have r0 := ((zeroRow w).alloc (.cells Dlt.zeroA 198)).alloc (.cells #[.int .i64 7] 3)
  have r1 := (zeroRow (w.alloc (.cells Dlt.zeroA 198))).alloc (.cells #[.int .i64 7] 3)
  have hb : Below w.heap.size w (((w.alloc (.cells Dlt.zeroA 198)).alloc (.cells Dlt.zeroA 198)).alloc (.cells #[.int .i64 7] 3)) :=
    (((Below.refl _ _).alloc (Nat.le_refl _) _).alloc (by simp) _).alloc (by simp; omega) _
  have r2 : (((w.alloc (.cells Dlt.zeroA 198)).alloc (.cells Dlt.zeroA 198)).alloc (.cells #[.int .i64 7] 3)).rowIs (w.heap.size + 1 + 1) 3 1 (fun _ => .int .i64 7) := by
    have h := World.rowIs_alloc ((w.alloc (.cells Dlt.zeroA 198)).alloc (.cells Dlt.zeroA 198)) #[.int .i64 7] 3 (fun _ => .int .i64 7) (fun i hi => by
      have : i = 0 := by simpa using hi
      subst this; rfl)
    simpa using h
  have R0 := Lib.hid r0
  have R1 := Lib.hid r1
  have R2 := Lib.hid r2
  have HB := Lib.hid hb
  clear r0 r1 r2 hb
  go_enter Tryz.func141, Tryz.ntmps141
  go_wp2_with fail
  go_loopw [6] (fun i wr => ∃ k : Nat, k ≤ 89 ∧ i = .int .i64 k ∧ wr.rowIs w.heap.size 198 89 (fun _ => .int .i64 0) ∧
      wr.rowIs (w.heap.size + 1) 198 89 (fun j => .int .i64 (if j < k then Dlt.st j else 0)) ∧ wr.rowIs (w.heap.size + 1 + 1) 3 1 (fun _ => .int .i64 (Dlt.st k)) ∧ Below w.heap.size w wr)
    (fun i _ => 89 - (intOf i).toNat)
  case atStart => exact ⟨0, by omega, rfl, by simpa using R0.out, by simpa using R1.out, by simpa [Dlt.st] using R2.out, HB.out⟩
  case round =>
    obtain ⟨k, hk, rfl, q0, q1, q2, hb⟩ := hrel
    have hz0 := q0.lt
    have hz1 := q1.lt
    have hz2 := q2.lt
    by_cases hlt : (k : Int) < 89
    · have hc1 : wr.cell? ⟨w.heap.size + 1, k, none⟩ = some (.int .i64 0) := by rw [q1.cell (by omega)]; simp
      have hf1 := q1.frozen k
      have hc2 := q2.cell (i := 0) (by omega)
      have hf2 := q2.frozen 0
      obtain ⟨s0, s1⟩ := Dlt.st_bd k
      have Q0 := Lib.hid q0
      have Q1 := Lib.hid q1
      have Q2 := Lib.hid q2
      clear q0 q1 q2 hz
      go_wp2_with (go_at_call 162; refine (sizesNext _ _ _ hc2 hf2 s0 s1).mono ?_; rintro e w' ⟨rfl, rfl⟩)
      go_roundw
      case rel =>
        refine ⟨k + 1, by omega, by go_num, (Q0.out.setOther (by simp; omega) _).setOther (by simp) _, ?_, ?_, (hb.setCell (by simp; omega) _).setCell (by simp) _⟩
        · exact rowIs_fill (g := Dlt.st) (Q1.out.setOther (by simp) _)
        · exact ((Q2.out.set 0 _).setOther (by simp) _).congr fun i hi => by
            have : i = 0 := by omega
            subst this; rfl
      case measure => simp [intOf]; omega
    · obtain rfl : k = 89 := by omega
      have hr := row_range q1
      have ht := row_there q0
      clear q0 q1 q2 hz
      have e89 : Dlt.szL.toArray.size = 89 := by simp [Dlt.szL]
      have HT : Hid (wr.there w.heap.size 0 Dlt.szL.toArray.size) := by rw [e89]; exact ht
      have HI := Lib.hid info89'
      have HI2 := Lib.hid info89''
      have hs := Below.size hb
      clear e89 ht
      go_wp2_with (first
        | (refine wpList_load_mid rfl 198 (.tmp 1) (by rfl) (w.heap.size + 1) 0 (by rfl) Dlt.szL _ hr Tryz.underlying198 rfl HI.out ?_)
        | (refine wpList_store_mid rfl 198 (.tmp 0) (.tmp 14) (by rfl) w.heap.size 0 Dlt.szL.toArray (by rfl) (by rfl) HT.out HI2.out (all_oneCell_toArray Dlt.szL_one) ?_))
      have hL := run_loadVar_mid (P := Tryz.prog) (wr.setCells w.heap.size 0 Dlt.szL) w.heap.size 0 198 Dlt.szL _ (World.rangeAt_setCells_same wr w.heap.size 0 Dlt.szL (by have := HT.out; rwa [List.size_toArray] at this)) Tryz.underlying198 rfl HI.out
      exact bodyPost_ret (v := .agg Dlt.szA) (res_c Tryz.results141 rfl hL) rfl ⟨rfl, below_setCells (Nat.le_refl _) _ _ _ hb⟩
theorem sizes_any (w : World) :
    Calls Tryz.prog 141 #[] w fun e w' => e = .returned (.agg Dlt.szA) ∧ Below w.heap.size w w' := sizes_end w

theorem st_step (k : Nat) : Dlt.st (k + 1) = min (Dlt.st k + (Dlt.st k + 5) / 10) 32767 := rfl
set_option maxRecDepth 100000 in
set_option maxHeartbeats 400000 in
theorem rSize_in (i : Int) (w : World) (h0 : 0 ≤ i) (h1 : i ≤ 88) : Calls Tryz.prog 159 #[.int .i64 i] w fun e w' => e = .returned (.int .i64 (Dlt.st i.toNat)) ∧ w = w' := by
  obtain ⟨n, rfl⟩ := Int.eq_ofNat_of_zero_le h0
  rw [Int.toNat_natCast]
  go_enter Tryz.func159, Tryz.ntmps159
  go_wp2
  go_loop [3, 4] (fun s k => ∃ j : Nat, j ≤ n ∧ k = .int .i64 j ∧ s = .int .i64 (Dlt.st j)) (fun _ k => n - (intOf k).toNat)
  case atStart => exact ⟨0, by omega, rfl, rfl⟩
  case round =>
    obtain ⟨j, hj, rfl, rfl⟩ := hrel
    obtain ⟨s0, s1⟩ := Dlt.st_bd j
    by_cases hlt : (j : Int) < n
    · by_cases hc : 32767 < Dlt.st j + (Dlt.st j + 5) / 10
      all_goals
        go_wp2
        go_round
        case rel => exact ⟨j + 1, by omega, by go_num, by rw [st_step]; congr 1; omega⟩
        case measure => simp [intOf]; omega
    · obtain rfl : j = n := by omega
      go_wp2
      go_ret
      exact ⟨rfl, rfl⟩
end Go.Proofs.YtahbecinkciahaaGreat
/- Layer 28: Valid, encode and decode of the program, Valid, Code and Next of the reference. -/
namespace Go.Proofs.YtahbecinkciahaaGreat
open Go.RowKit
set_option linter.unusedVariables false
attribute [local go_sem ↓] run_min_plain run_max_plain
attribute [local go_sem] setCell_drewN alloc_drewN

/-- a state as a value -/
def stV (v i : Int) : Value := .agg #[.int .i64 v, .int .i64 i]
theorem valid_true {v i : Int} (h : Dlt.valid v i = true) : -32768 ≤ v ∧ v ≤ 32767 ∧ 0 ≤ i ∧ i ≤ 88 := by
  simpa [Dlt.valid, and_assoc] using h
theorem valid_false {v i : Int} (h : Dlt.valid v i = false) : (decide (-32768 ≤ v) = false) ∨ (-32768 ≤ v ∧ decide (v ≤ 32767) = false) ∨ (-32768 ≤ v ∧ v ≤ 32767 ∧ decide (0 ≤ i) = false) ∨ (-32768 ≤ v ∧ v ≤ 32767 ∧ 0 ≤ i ∧ decide (i < 89) = false ∧ decide (i ≤ 88) = false) := by
  by_cases h1 : -32768 ≤ v
  · by_cases h2 : v ≤ 32767
    · by_cases h3 : 0 ≤ i
      · right; right; right
        have h4 : ¬ i ≤ 88 := by
          intro h4
          simp [Dlt.valid, h1, h2, h3, h4] at h
        exact ⟨h1, h2, h3, by simp; omega, by simpa using h4⟩
      · exact .inr (.inr (.inl ⟨h1, h2, by simpa using h3⟩))
    · exact .inr (.inl ⟨h1, by simpa using h2⟩)
  · exact .inl (by simpa using h1)
set_option maxRecDepth 100000 in
set_option maxHeartbeats 400000 in
theorem Valid_any (v i : Int) (w : World) : Calls Tryz.prog 64 #[.agg #[.int .i64 v, .int .i64 i]] w fun e w' => e = .returned (.bool (Dlt.valid v i)) ∧ w.alloc (.cells #[.int .i64 v, .int .i64 i] 24) = w' := by
  cases hv : Dlt.valid v i
  · rcases valid_false hv with h1 | ⟨h1, h2⟩ | ⟨h1, h2, h3⟩ | ⟨h1, h2, h3, h4, _⟩
    all_goals
      clear hv
      go_enter Tryz.func64, Tryz.ntmps64
      go_wp2
      go_ret
      exact ⟨rfl, rfl⟩
  · obtain ⟨h1, h2, h3, h4⟩ := valid_true hv
    have h5 : i < 89 := by omega
    clear hv h4
    go_enter Tryz.func64, Tryz.ntmps64
    go_wp2
    go_ret
    exact ⟨rfl, rfl⟩
set_option maxRecDepth 100000 in
set_option maxHeartbeats 400000 in
theorem rValid_any (v i : Int) (w : World) : Calls Tryz.prog 67 #[.agg #[.int .i64 v, .int .i64 i]] w fun e w' => e = .returned (.bool (Dlt.valid v i)) ∧ w.alloc (.cells #[.int .i64 v, .int .i64 i] 24) = w' := by
  cases hv : Dlt.valid v i
  · rcases valid_false hv with h1 | ⟨h1, h2⟩ | ⟨h1, h2, h3⟩ | ⟨h1, h2, h3, _, h4⟩
    all_goals
      clear hv
      go_enter Tryz.func67, Tryz.ntmps67
      go_wp2
      go_ret
      exact ⟨rfl, rfl⟩
  · obtain ⟨h1, h2, h3, h4⟩ := valid_true hv
    clear hv
    go_enter Tryz.func67, Tryz.ntmps67
    go_wp2
    go_ret
    exact ⟨rfl, rfl⟩
/-- block b holds the steps -/
def StepsAt (w : World) (b : Nat) : Prop := b < w.heap.size ∧ ∀ n, n < 89 → w.cell? ⟨b, n, none⟩ = some (.int .i64 (Dlt.st n))
theorem StepsAt.below {w w' : World} {b : Nat} (h : StepsAt w b) (hb : Below w.heap.size w w') : StepsAt w' b :=
  ⟨Nat.lt_of_lt_of_le h.1 hb.size, fun n hn => (hb.cell (p := ⟨b, n, none⟩) h.1).trans (h.2 n hn)⟩
theorem code_at (v x : Int) (n : Nat) (A : Int) (hA : A = ((x - v).natAbs : Int)) : Dlt.code v n x = (if x - v < 0 then 8 else 0) + min (4 * A / Dlt.st n) 7 ∧ 0 ≤ 4 * A / Dlt.st n := by
  have h := Dlt.st_bd n
  refine ⟨by unfold Dlt.code; rw [hA, Int.toNat_natCast], Int.ediv_nonneg (by omega) (by omega)⟩
set_option maxRecDepth 100000 in
set_option maxHeartbeats 400000 in
theorem encode_any (b : Nat) (v i x : Int) (w : World) (hs : StepsAt w b) (hv : Dlt.valid v i = true) (x0 : -32768 ≤ x) (x1 : x ≤ 32767) :
    Calls Tryz.prog 142 #[.pointer (some ⟨b, 0, none⟩), .agg #[.int .i64 v, .int .i64 i], .int .i64 x] w fun e w' => e = .returned (.int .i64 (Dlt.code v i x)) ∧ Below w.heap.size w w' := by
  obtain ⟨h1, h2, h3, h4⟩ := valid_true hv
  clear hv
  obtain ⟨n, rfl⟩ := Int.eq_ofNat_of_zero_le h3
  obtain ⟨hb, hc⟩ := hs
  have hcn := hc n (by omega)
  have hst := Dlt.st_bd n
  obtain ⟨s0, s1⟩ := hst
  clear hc
  by_cases hx : x - v < 0
  · go_enter Tryz.func142, Tryz.ntmps142
    go_wp2
    go_quiet (fail)
    go_wp2
    all_goals go_ret
    all_goals
      refine ⟨ret_int' ?_, below_drewN ((Below.refl _ _).alloc (Nat.le_refl _) _) _⟩
      obtain ⟨e1, e2⟩ := code_at v x n (-(x - v)) (by omega)
      rw [e1, if_pos hx]
      generalize 4 * -(x - v) / Dlt.st n = q at *
      rw [IntWalk.wrap64_in _ ⟨by omega, by omega⟩]
      try omega
  · go_enter Tryz.func142, Tryz.ntmps142
    go_wp2
    go_quiet (fail)
    go_wp2
    all_goals go_ret
    all_goals
      refine ⟨ret_int' ?_, below_drewN ((Below.refl _ _).alloc (Nat.le_refl _) _) _⟩
      obtain ⟨e1, e2⟩ := code_at v x n (x - v) (by omega)
      rw [e1, if_neg (by omega)]
      generalize 4 * (x - v) / Dlt.st n = q at *
      rw [IntWalk.wrap64_in _ ⟨by omega, by omega⟩]
      try omega
theorem prod_bd (c : Int) (n : Nat) : 0 ≤ (2 * (c % 8) + 1) * Dlt.st n ∧ (2 * (c % 8) + 1) * Dlt.st n ≤ 491505 := by
  obtain ⟨s0, s1⟩ := Dlt.st_bd n
  have h : c % 8 = 0 ∨ c % 8 = 1 ∨ c % 8 = 2 ∨ c % 8 = 3 ∨ c % 8 = 4 ∨ c % 8 = 5 ∨ c % 8 = 6 ∨ c % 8 = 7 := by omega
  rcases h with h | h | h | h | h | h | h | h <;> rw [h] <;> omega
set_option maxRecDepth 100000 in
set_option maxHeartbeats 400000 in
theorem decode_any (b : Nat) (v i c : Int) (w : World) (hs : StepsAt w b) (hv : Dlt.valid v i = true) (c0 : 0 ≤ c) (c1 : c ≤ 15) :
    Calls Tryz.prog 143 #[.pointer (some ⟨b, 0, none⟩), .agg #[.int .i64 v, .int .i64 i], .int .i64 c] w fun e w' => e = .returned (.agg #[.int .i64 (Dlt.nextV v i c), .int .i64 (Dlt.nextI i c)]) ∧ Below w.heap.size w w' := by
  obtain ⟨h1, h2, h3, h4⟩ := valid_true hv
  clear hv
  obtain ⟨n, rfl⟩ := Int.eq_ofNat_of_zero_le h3
  obtain ⟨hb, hc⟩ := hs
  have hcn := hc n (by omega)
  have hst := Dlt.st_bd n
  obtain ⟨s0, s1⟩ := hst
  clear hc
  have hp := prod_bd c n
  obtain ⟨p0, p1⟩ := hp
  go_enter Tryz.func143, Tryz.ntmps143
  go_wp2
  go_quiet (fail)
  have hd : 0 ≤ (2 * (c % 8) + 1) * Dlt.st n / 8 ∧ (2 * (c % 8) + 1) * Dlt.st n / 8 ≤ 61438 := by omega
  have HN := Lib.hid (show Dlt.nextV v n c = Dlt.clamp (-32768) 32767 (if 8 ≤ c then v - (2 * (c % 8) + 1) * Dlt.st n / 8 else v + (2 * (c % 8) + 1) * Dlt.st n / 8) from rfl)
  clear p0 p1
  generalize (2 * (c % 8) + 1) * Dlt.st n / 8 = D at *
  obtain ⟨d0, d1⟩ := hd
  have HI := Lib.hid (show Dlt.nextI n c = Dlt.clamp 0 88 (if c % 8 < 4 then (n : Int) - 1 else n + 2 * (c % 8 - 3)) from rfl)
  by_cases hc8 : 8 ≤ c
  all_goals by_cases hm : c % 8 < 4
  all_goals
    go_wp2
    refine bodyPost_ret (v := .agg #[.int .i64 (Dlt.nextV v n c), .int .i64 (Dlt.nextI n c)]) ?_ rfl ⟨rfl, ?_⟩
    · rw [HN.out, HI.out]
      first
        | (rw [if_pos hc8, if_pos hm]; simp [results, Tryz.results143, go_sem, Dlt.clamp, ← Int.sub_eq_add_neg]; done)
        | (rw [if_pos hc8, if_neg (by omega)]; simp [results, Tryz.results143, go_sem, Dlt.clamp, ← Int.sub_eq_add_neg]; done)
        | (rw [if_neg (by omega), if_pos hm]; simp [results, Tryz.results143, go_sem, Dlt.clamp]; done)
        | (rw [if_neg (by omega), if_neg (by omega)]; simp [results, Tryz.results143, go_sem, Dlt.clamp]; done)
    · exact below_drewN (((Below.refl _ _).alloc (Nat.le_refl _) _).alloc (by simp) _) _

set_option maxRecDepth 100000 in
set_option maxHeartbeats 400000 in
theorem rCode_any (v i x : Int) (w : World) (hv : Dlt.valid v i = true) (x0 : -32768 ≤ x) (x1 : x ≤ 32767) :
    Calls Tryz.prog 130 #[.agg #[.int .i64 v, .int .i64 i], .int .i16 x] w fun e w' => e = .returned (.int .u8 (Dlt.code v i x)) ∧ Below w.heap.size w w' := by
  obtain ⟨h1, h2, h3, h4⟩ := valid_true hv
  clear hv
  obtain ⟨n, rfl⟩ := Int.eq_ofNat_of_zero_le h3
  have hst := Dlt.st_bd n
  obtain ⟨s0, s1⟩ := hst
  have hco := code_at v x n (max (x - v) (-(x - v))) (by omega)
  by_cases hx : x - v < 0
  · rw [if_pos hx] at hco
    have HC := Lib.hid hco.1
    have hq := hco.2
    clear hco
    go_enter Tryz.func130, Tryz.ntmps130
    go_wp2_with (go_at_call 159; refine (rSize_in n _ (by omega) (by omega)).mono ?_; rintro e w' ⟨rfl, rfl⟩)
    go_ret
    refine ⟨ret_int' ?_, (Below.refl _ _).alloc (Nat.le_refl _) _⟩
    rw [HC.out]
    omega
  · rw [if_neg hx] at hco
    have HC := Lib.hid hco.1
    have hq := hco.2
    clear hco
    go_enter Tryz.func130, Tryz.ntmps130
    go_wp2_with (go_at_call 159; refine (rSize_in n _ (by omega) (by omega)).mono ?_; rintro e w' ⟨rfl, rfl⟩)
    go_ret
    refine ⟨ret_int' ?_, (Below.refl _ _).alloc (Nat.le_refl _) _⟩
    rw [HC.out]
    omega
set_option maxRecDepth 100000 in
set_option maxHeartbeats 400000 in
theorem rNext_any (v i c : Int) (w : World) (hv : Dlt.valid v i = true) (c0 : 0 ≤ c) (c1 : c ≤ 15) :
    Calls Tryz.prog 131 #[.agg #[.int .i64 v, .int .i64 i], .int .u8 c] w fun e w' => e = .returned (.agg #[.int .i64 (Dlt.nextV v i c), .int .i64 (Dlt.nextI i c)]) ∧ Below w.heap.size w w' := by
  obtain ⟨h1, h2, h3, h4⟩ := valid_true hv
  clear hv
  obtain ⟨n, rfl⟩ := Int.eq_ofNat_of_zero_le h3
  have hst := Dlt.st_bd n
  obtain ⟨s0, s1⟩ := hst
  have hp := prod_bd c n
  obtain ⟨p0, p1⟩ := hp
  have HN := Lib.hid (show Dlt.nextV v n c = Dlt.clamp (-32768) 32767 (if 8 ≤ c then v - (2 * (c % 8) + 1) * Dlt.st n / 8 else v + (2 * (c % 8) + 1) * Dlt.st n / 8) from rfl)
  have HI := Lib.hid (show Dlt.nextI n c = Dlt.clamp 0 88 (if c % 8 < 4 then (n : Int) - 1 else n + 2 * (c % 8 - 3)) from rfl)
  by_cases hc8 : 8 ≤ c
  all_goals by_cases hm : c % 8 < 4
  all_goals
    go_enter Tryz.func131, Tryz.ntmps131
    go_wp2_with (go_at_call 159; refine (rSize_in n _ (by omega) (by omega)).mono ?_; rintro e w' ⟨rfl, rfl⟩)
    refine bodyPost_ret (v := .agg #[.int .i64 (Dlt.nextV v n c), .int .i64 (Dlt.nextI n c)]) ?_ rfl ⟨rfl, ?_⟩
    · rw [HN.out, HI.out]
      first
        | (rw [if_pos hc8, if_pos hm]; simp [results, Tryz.results131, go_sem, Dlt.clamp]; done)
        | (rw [if_pos hc8, if_neg (by omega)]; simp [results, Tryz.results131, go_sem, Dlt.clamp]; done)
        | (rw [if_neg (by omega), if_pos hm]; simp [results, Tryz.results131, go_sem, Dlt.clamp]; done)
        | (rw [if_neg (by omega), if_neg (by omega)]; simp [results, Tryz.results131, go_sem, Dlt.clamp]; done)
    · exact ((Below.refl _ _).alloc (Nat.le_refl _) _).alloc (by simp) _
end Go.Proofs.YtahbecinkciahaaGreat
/- Words for blocks of memory that are known whole, and lemmas by which they stay so. -/
namespace Go.Proofs.YtahbecinkciahaaGreat
open Go.RowKit

/-- Block g is just the cells cs of type t, none frozen. -/
def Blk (w : World) (g : Nat) (t : TypeId) (cs : Array Value) : Prop := w.heap[g]? = some (.cells cs t (0, 0))
section
variable {w w' : World} {g : Nat} {t : TypeId} {cs : Array Value}
theorem Blk.lt (h : Blk w g t cs) : g < w.heap.size := by
  rcases Nat.lt_or_ge g w.heap.size with hlt | hge
  · exact hlt
  · unfold Blk at h; rw [Array.getElem?_eq_none hge] at h; cases h
theorem Blk.cell (h : Blk w g t cs) (i : Nat) : w.cell? ⟨g, i, none⟩ = cs[i]? := cell_of_row w g i cs t (0, 0) h
theorem Blk.at (h : Blk w g t cs) (i : Nat) (v : Value) (hv : cs[i]? = some v) : w.cell? ⟨g, i, none⟩ = some v := (h.cell i).trans hv
theorem Blk.frozen (h : Blk w g t cs) (i : Nat) : w.frozen? ⟨g, i, none⟩ = false := by
  unfold Blk at h
  simp [World.frozen?, h]
theorem Blk.new (w : World) (t : TypeId) (cs : Array Value) : Blk (w.alloc (.cells cs t)) w.heap.size t cs := by
  show (w.heap.push _)[w.heap.size]? = _
  simp
theorem Blk.drew (h : Blk w g t cs) : Blk w.drew g t cs := h
theorem Blk.drewN (h : Blk w g t cs) (n : Nat) : Blk (w.drewN n) g t cs := h
theorem Blk.alloc (h : Blk w g t cs) (o : Obj) : Blk (w.alloc o) g t cs := (Below.heap_alloc w o g h.lt).trans h
theorem Blk.set_ (h : Blk w g t cs) (i : Nat) (u : Value) : Blk (w.setCell ⟨g, i, none⟩ u) g t (cs.setIfInBounds i u) := by
  unfold Blk at h ⊢
  simp [World.setCell, Array.getElem?_modify, h]
theorem Blk.far (h : Blk w g t cs) {p : Addr} (hp : g ≠ p.block) (u : Value) : Blk (w.setCell p u) g t cs := (Below.heap_setCell w p u g hp).trans h
theorem Blk.below {B : Nat} (h : Blk w g t cs) (hb : Below B w w') (hg : g < B) : Blk w' g t cs := (hb.block g hg).trans h
/-- a block stays so behind a call that makes new memory alone -/
theorem Blk.later (h : Blk w g t cs) (hb : Below w.heap.size w w') : Blk w' g t cs := h.below hb h.lt
theorem Blk.grown {row : Option Nat} (h : Blk w g t cs) (hb : w.grownBy w' row) (hg : some g ≠ row) : Blk w' g t cs := (hb.block g h.lt hg).trans h
end
end Go.Proofs.YtahbecinkciahaaGreat
/- Layer 28: Encode and Decode of the program and of the reference. -/
namespace Go.Proofs.YtahbecinkciahaaGreat
open Go.RowKit
set_option linter.unusedVariables false
attribute [local go_sem ↓] run_min_plain run_max_plain
attribute [local go_sem] setCell_drewN alloc_drewN

theorem szA_size : Dlt.szA.size = 89 := by simp [Dlt.szA, Dlt.szL]
theorem szA_info : (Tryz.prog.info? 198).map (·.size) = some Dlt.szA.size := by rw [szA_size]; exact info89
theorem szA_one : Dlt.szA.all (·.oneCell') = true := all_oneCell_toArray Dlt.szL_one
/-- the world behind 'l := sizes()', l in a new block -/
def laidW (w : World) : World := (w.alloc (.cells Dlt.zeroA 198)).setCells w.heap.size 0 Dlt.szA.toList
theorem laid_there (w : World) : (w.alloc (.cells Dlt.zeroA 198)).there w.heap.size 0 Dlt.szA.size := by
  rw [szA_size]; exact row_there (zeroRow w)
theorem laid_below (w : World) : Below w.heap.size w (laidW w) := below_setCells (Nat.le_refl _) _ _ _ ((Below.refl _ _).alloc (Nat.le_refl _) _)
theorem laid_size (w : World) : w.heap.size < (laidW w).heap.size := by
  have h := (below_setCells (Nat.le_refl w.heap.size) Dlt.szA.toList 0 (w.alloc (.cells Dlt.zeroA 198)) (Below.refl _ (w.alloc (.cells Dlt.zeroA 198)))).size
  simp at h
  show w.heap.size < (World.setCells _ _ _ _).heap.size
  omega
theorem laid_steps (w : World) : StepsAt (laidW w) w.heap.size := by
  refine ⟨laid_size w, fun n hn => ?_⟩
  have h := World.rangeAt_setCells_same (w.alloc (.cells Dlt.zeroA 198)) w.heap.size 0 Dlt.szL (by rw [Dlt.szL_len, ← szA_size]; exact laid_there w)
  have := h n _ (Dlt.szL_at n hn)
  rw [Nat.zero_add] at this
  exact this
end Go.Proofs.YtahbecinkciahaaGreat
/- Layer 28: Pack of the program. -/
namespace Go.Proofs.YtahbecinkciahaaGreat
open Go.RowKit
set_option linter.unusedVariables false
attribute [local go_sem ↓] run_min_plain run_max_plain
attribute [local go_sem] setCell_drewN alloc_drewN
theorem del_u8 : (Tryz.prog.info? 5).map (fun i => (i.zero, i.size, i.bytes)) = some (some (.int .u8 0), 1, 1) := by kernel_rfl
theorem del_i16 : (Tryz.prog.info? 93).map (fun i => (i.zero, i.size, i.bytes)) = some (some (.int .i16 0), 1, 2) := by kernel_rfl
theorem blockSize_any (n : Nat) (w : World) (h : n ≤ 8000) : Calls Tryz.prog 140 #[.int .i64 n] w fun e w' => e = .returned (.int .i64 ((4 + (n + 1) / 2 : Nat) : Int)) ∧ w = w' := by
  go_enter Tryz.func140, Tryz.ntmps140
  go_wp2
  go_ret
  exact ⟨ret_int' (by omega), rfl⟩
theorem StepsAt.far {w : World} {b : Nat} (h : StepsAt w b) {p : Addr} (hp : b ≠ p.block) (u : Value) : StepsAt (w.setCell p u) b :=
  ⟨by simpa [World.setCell] using h.1, fun n hn => (World.cell?_setCell_other w p ⟨b, n, none⟩ u (fun e => hp (by rw [e]))).trans (h.2 n hn)⟩
theorem pack_round {w wo : World} {B gt N k : Nat} {t t5 : TypeId} {s : Int × Int} {zs : List Int} {V I c : Int} (hg : B + 1 + 1 + 1 + 1 ≤ gt) (h0 : Blk w B t #[.int .i64 V, .int .i64 I]) (h1 : Blk w (B + 1) t #[.int .i64 0, .int .i64 0])
    (hr : w.rowIs (B + 1 + 1 + 1) t5 N (fun j => .int .u8 (Dlt.packAt s zs k j))) (hs : StepsAt w gt) (hb : Below B wo w) (X : Int) (hX : X = Dlt.part s zs (k + 1) (k / 2)) (hst : Dlt.stAt s zs (k + 1) = (Dlt.nextV V I c, Dlt.nextI I c)) :
    Blk (((w.setCell ⟨B, 0, none⟩ (.int .i64 (Dlt.nextV V I c))).setCell ⟨B, 1, none⟩ (.int .i64 (Dlt.nextI I c))).setCell ⟨B + 1 + 1 + 1, 4 + k / 2, none⟩ (.int .u8 X)) B t #[.int .i64 (Dlt.stAt s zs (k + 1)).1, .int .i64 (Dlt.stAt s zs (k + 1)).2] ∧
    Blk (((w.setCell ⟨B, 0, none⟩ (.int .i64 (Dlt.nextV V I c))).setCell ⟨B, 1, none⟩ (.int .i64 (Dlt.nextI I c))).setCell ⟨B + 1 + 1 + 1, 4 + k / 2, none⟩ (.int .u8 X)) (B + 1) t #[.int .i64 0, .int .i64 0] ∧
    (((w.setCell ⟨B, 0, none⟩ (.int .i64 (Dlt.nextV V I c))).setCell ⟨B, 1, none⟩ (.int .i64 (Dlt.nextI I c))).setCell ⟨B + 1 + 1 + 1, 4 + k / 2, none⟩ (.int .u8 X)).rowIs (B + 1 + 1 + 1) t5 N (fun j => .int .u8 (Dlt.packAt s zs (k + 1) j)) ∧
    StepsAt (((w.setCell ⟨B, 0, none⟩ (.int .i64 (Dlt.nextV V I c))).setCell ⟨B, 1, none⟩ (.int .i64 (Dlt.nextI I c))).setCell ⟨B + 1 + 1 + 1, 4 + k / 2, none⟩ (.int .u8 X)) gt ∧
    Below B wo (((w.setCell ⟨B, 0, none⟩ (.int .i64 (Dlt.nextV V I c))).setCell ⟨B, 1, none⟩ (.int .i64 (Dlt.nextI I c))).setCell ⟨B + 1 + 1 + 1, 4 + k / 2, none⟩ (.int .u8 X)) := by
  refine ⟨?_, ?_, ?_, ?_, ?_⟩
  · rw [hst]
    exact ((h0.set_ 0 _).set_ 1 _).far (by simp; omega) _
  · exact ((h1.far (by simp) _).far (by simp) _).far (by simp) _
  · refine (((hr.setOther (by simp; omega) _).setOther (by simp; omega) _).set (4 + k / 2) _).congr fun j _ => ?_
    rw [Dlt.packAt_set, hX]
    split <;> rfl
  · exact ((hs.far (by simp; omega) _).far (by simp; omega) _).far (by simp; omega) _
  · exact ((hb.setCell (by simp) _).setCell (by simp) _).setCell (by simp; omega) _
set_option maxRecDepth 100000 in
set_option maxHeartbeats 1600000 in
theorem Pack_ok (v i : Int) (A : Option Addr) (zs : List Int) (cap : Nat) (w : World) (hv : Dlt.valid v i = true) (hA : IntsAt w w.heap.size .i16 A zs) (hz : Within (-32768) 32767 zs) (h8 : zs.length ≤ 8000) (h0 : 0 < zs.length) :
    Calls Tryz.prog 92 #[.agg #[.int .i64 v, .int .i64 i], .slice A zs.length cap] w fun e w' => ∃ (A' : Option Addr) (c' : Nat), e = .returned (.tuple #[.slice A' (4 + (zs.length + 1) / 2) c', .agg #[.int .i64 (Dlt.stAt (v, i) zs zs.length).1, .int .i64 (Dlt.stAt (v, i) zs zs.length).2], .int .u8 0]) ∧
      4 + (zs.length + 1) / 2 ≤ c' ∧ IntsAt w' w'.heap.size .u8 A' (Dlt.packB (v, i) zs) ∧ Below w.heap.size w w' := by
  have hz89 := zero89
  have HI2 := Lib.hid szA_info
  obtain ⟨N, hN⟩ : ∃ N, N = 4 + (zs.length + 1) / 2 := ⟨_, rfl⟩
  have hN1 : 5 ≤ N := by omega
  have hN2 : N ≤ 4004 := by omega
  have HN := Lib.hid hN
  clear hN
  obtain ⟨W0, hW0⟩ : ∃ W0, W0 = ((w.alloc (.cells #[.int .i64 v, .int .i64 i] 24)).alloc (.cells #[.int .i64 0, .int .i64 0] 24)).alloc (.cells #[.int .i64 v, .int .i64 i] 24) := ⟨_, rfl⟩
  obtain ⟨W1, hW1⟩ : ∃ W1, W1 = W0.alloc (.cells (madeCells #[.int .u8 0] N) 5) := ⟨_, rfl⟩
  have hs0 : W0.heap.size = w.heap.size + 1 + 1 + 1 := by rw [hW0]; simp
  have hs1 : W1.heap.size = w.heap.size + 1 + 1 + 1 + 1 := by rw [hW1]; simp [hs0]
  have B0 : Blk W1 w.heap.size 24 #[.int .i64 v, .int .i64 i] := by rw [hW1, hW0]; exact ((((Blk.new w _ _).alloc _).alloc _).alloc _)
  have B1 : Blk W1 (w.heap.size + 1) 24 #[.int .i64 0, .int .i64 0] := by
    have h := Blk.new (w.alloc (.cells #[.int .i64 v, .int .i64 i] 24)) 24 #[.int .i64 0, .int .i64 0]
    rw [show (w.alloc (.cells #[.int .i64 v, .int .i64 i] 24)).heap.size = w.heap.size + 1 by simp] at h
    rw [hW1, hW0]; exact ((h.alloc _).alloc _)
  have R : W1.rowIs (w.heap.size + 1 + 1 + 1) 5 N (fun _ => .int .u8 0) := by rw [hW1, ← hs0]; exact World.rowIs_made W0 _ _ _
  have hbw : Below w.heap.size w W1 := by
    rw [hW1, hW0]; exact ((((Below.refl _ w).alloc (Nat.le_refl _) _).alloc (by simp) _).alloc (by simp; omega) _).alloc (by simp; omega) _
  have hmk := run_make_row' (P := Tryz.prog) 22 5 (.int .u8 0) 1 Tryz.underlying22 del_u8 rfl .i64 .i64 N (by omega) (by omega) W0
  rw [← hW1, hs0, hW0] at hmk
  have c0 := B0.at 0 _ rfl
  have c1 := B0.at 1 _ rfl
  have r0 := R.cell (i := 0) (by omega)
  have r1 := R.cell (i := 1) (by omega)
  have r2 := R.cell (i := 2) (by omega)
  have q0 := R.frozen 0
  have q1 := R.frozen 1
  have q2 := R.frozen 2
  have HB0 := Lib.hid B0
  have HB1 := Lib.hid B1
  have HR := Lib.hid R
  have HBW := Lib.hid hbw
  have HS1 := Lib.hid hs1
  clear hW1 hs0 hW0 hs1 B0 B1 R hbw
  have hi0 : (0 : Int) < (N : Int) := by omega
  have hi1 : (1 : Int) < (N : Int) := by omega
  have hi2 : (2 : Int) < (N : Int) := by omega
  go_enter Tryz.func92, Tryz.ntmps92
  go_wp2_with fail
  refine (Valid_any v i _).mono ?_
  rintro e w' ⟨rfl, rfl⟩
  rw [hv]
  go_wp2_with fail
  refine (blockSize_any _ _ h8).mono ?_
  rintro e w' ⟨rfl, rfl⟩
  rw [← HN.out]
  go_wp2_with fail
  clear hmk
  go_region
  go_wp2_with fail
  refine (sizes_any _).mono ?_
  rintro e w3 ⟨rfl, hb3⟩
  have e1 : W1.heap.size = w.heap.size + 1 + 1 + 1 + 1 := HS1.out
  have hrow : (((W1.setCell ⟨w.heap.size + 1 + 1 + 1, 0, none⟩ (.int .u8 (IntKind.u16.wrap v / 256 % 256))).setCell ⟨w.heap.size + 1 + 1 + 1, 1, none⟩ (.int .u8 (IntKind.u16.wrap v % 256))).setCell ⟨w.heap.size + 1 + 1 + 1, 2, none⟩ (.int .u8 (i % 256))).drew.rowIs (w.heap.size + 1 + 1 + 1) 5 N (fun j => .int .u8 (Dlt.packAt (v, i) zs 0 j)) :=
    (((HR.out.set 0 _).set 1 _).set 2 _).congr fun j hj => by
      obtain ⟨g1, g2, g3, g4⟩ := valid_true hv
      unfold Dlt.packAt Dlt.part
      rw [IntKind.wrap_u16]
      by_cases h2 : j = 2
      · subst h2; simp; omega
      · by_cases h1 : j = 1
        · subst h1; simp
        · by_cases h0 : j = 0
          · subst h0; simp; omega
          · simp [h0, h1, h2]
  have b0 : Blk (((W1.setCell ⟨w.heap.size + 1 + 1 + 1, 0, none⟩ (.int .u8 (IntKind.u16.wrap v / 256 % 256))).setCell ⟨w.heap.size + 1 + 1 + 1, 1, none⟩ (.int .u8 (IntKind.u16.wrap v % 256))).setCell ⟨w.heap.size + 1 + 1 + 1, 2, none⟩ (.int .u8 (i % 256))).drew w.heap.size 24 #[.int .i64 v, .int .i64 i] :=
    (((HB0.out.far (by simp; omega) _).far (by simp; omega) _).far (by simp; omega) _).drew
  have b1 : Blk (((W1.setCell ⟨w.heap.size + 1 + 1 + 1, 0, none⟩ (.int .u8 (IntKind.u16.wrap v / 256 % 256))).setCell ⟨w.heap.size + 1 + 1 + 1, 1, none⟩ (.int .u8 (IntKind.u16.wrap v % 256))).setCell ⟨w.heap.size + 1 + 1 + 1, 2, none⟩ (.int .u8 (i % 256))).drew (w.heap.size + 1) 24 #[.int .i64 0, .int .i64 0] :=
    (((HB1.out.far (by simp) _).far (by simp) _).far (by simp) _).drew
  have hbw2 : Below w.heap.size w (((W1.setCell ⟨w.heap.size + 1 + 1 + 1, 0, none⟩ (.int .u8 (IntKind.u16.wrap v / 256 % 256))).setCell ⟨w.heap.size + 1 + 1 + 1, 1, none⟩ (.int .u8 (IntKind.u16.wrap v % 256))).setCell ⟨w.heap.size + 1 + 1 + 1, 2, none⟩ (.int .u8 (i % 256))).drew :=
    (((HBW.out.setCell (by simp; omega) _).setCell (by simp; omega) _).setCell (by simp; omega) _).drew
  have hs3 : w.heap.size + 1 + 1 + 1 + 1 ≤ w3.heap.size := by have := hb3.size; simpa [e1, World.setCell] using this
  have HB0' := Lib.hid ((b0.later hb3).later (laid_below w3))
  have HB1' := Lib.hid ((b1.later hb3).later (laid_below w3))
  have HR' := Lib.hid (rowIs_below (rowIs_below hrow hb3 hrow.lt) (laid_below w3) (rowIs_below hrow hb3 hrow.lt).lt)
  have HBW' := Lib.hid ((hbw2.trans (hb3.mono hbw2.size)).trans ((laid_below w3).mono (by omega)))
  have HST := Lib.hid (laid_steps w3)
  have HT := Lib.hid (laid_there w3)
  clear hrow b0 b1 hbw2 hb3 HB0 HB1 HR HBW HS1 c0 c1 r0 r1 r2 q0 q1 q2 e1
  go_wp2_with (first
    | (refine wpList_store_mid rfl 198 (.tmp 10) (.tmp 48) (by rfl) w3.heap.size 0 Dlt.szA (by rfl) (by rfl) HT.out HI2.out szA_one ?_; change wpList _ _ _ _ _ (laidW w3); generalize laidW w3 = W4 at *; generalize w3.heap.size = gt at *; clear hz89 HT HI2)
    | fail)
  go_loopw [51] (fun q wr => ∃ k : Nat, k ≤ zs.length ∧ q = .int .i64 k ∧ Blk wr w.heap.size 24 #[.int .i64 (Dlt.stAt (v, i) zs k).1, .int .i64 (Dlt.stAt (v, i) zs k).2] ∧
      Blk wr (w.heap.size + 1) 24 #[.int .i64 0, .int .i64 0] ∧ wr.rowIs (w.heap.size + 1 + 1 + 1) 5 N (fun j => .int .u8 (Dlt.packAt (v, i) zs k j)) ∧ StepsAt wr gt ∧ Below w.heap.size w wr)
    (fun q _ => zs.length - (intOf q).toNat)
  case atStart => exact ⟨0, Nat.zero_le _, rfl, HB0'.out, HB1'.out, HR'.out, HST.out, HBW'.out⟩
  case round =>
    obtain ⟨k, hk, rfl, B0, B1, R, hst, hb⟩ := hrel
    clear HB0' HB1' HR' HST HBW'
    have HSV := Lib.hid (Dlt.stAt_valid (v, i) hv zs k)
    by_cases hlt : k < zs.length
    · obtain ⟨b, off, rfl, hbB, hcell⟩ := hA (by omega)
      have hzk := hz.at hlt
      have hck : wr.cell? ⟨b, off + k, none⟩ = some (.int .i16 (zs.getD k 0)) := (hb.cell (p := ⟨b, off + k, none⟩) hbB).trans (hcell k hlt)
      have HS := Lib.hid (Dlt.stAt_succ (v, i) zs k hlt)
      have hcd : Dlt.code (Dlt.stAt (v, i) zs k).1 (Dlt.stAt (v, i) zs k).2 (zs.getD k 0) = Dlt.codeAt (v, i) zs k := rfl
      obtain ⟨k0, k1⟩ := Dlt.codeAt_bd (v, i) zs k
      generalize hcc : Dlt.codeAt (v, i) zs k = c at *
      have HCC := Lib.hid hcc
      generalize zs.getD k 0 = z at hck hzk hcd
      have HC := Lib.hid hcd
      obtain ⟨z0, z1⟩ := hzk
      clear hcell hcd hcc
      generalize hV : (Dlt.stAt (v, i) zs k).1 = V at *
      generalize hI : (Dlt.stAt (v, i) zs k).2 = I at *
      have HV := Lib.hid hV
      have HI := Lib.hid hI
      have c0 := B0.at 0 _ rfl
      have c1 := B0.at 1 _ rfl
      have HB0 := Lib.hid B0
      have HB1 := Lib.hid B1
      have HR := Lib.hid R
      have HST := Lib.hid hst
      have HB := Lib.hid hb
      have hn0 : (0 : Int) ≤ (k : Int) := by omega
      have hn1 : (k : Int) < (zs.length : Int) := by omega
      clear B0 B1 R hst hb hV hI
      go_wp2
      go_still_tail 6, (by kernel_rfl)
      change wpList _ _ _ _ _ wr.drew
      go_wp2_with fail
      refine (encode_any gt V I z wr.drew HST.out HSV.out z0 z1).mono ?_
      rintro e w5 ⟨rfl, hb5⟩
      rw [HC.out]
      have HB05 := Lib.hid (HB0.out.drew.later hb5)
      have HB15 := Lib.hid (HB1.out.drew.later hb5)
      have HR5 := Lib.hid (rowIs_below HR.out.drew hb5 HR.out.lt)
      have HST5 := Lib.hid (StepsAt.below (w := wr.drew) HST.out hb5)
      have HBW5 := Lib.hid (HB.out.drew.trans (hb5.mono HB.out.size))
      clear hb5 HB0 HB1 HR HST HB c0 c1 hck
      have c0 := HB05.out.at 0 _ rfl
      have c1 := HB05.out.at 1 _ rfl
      go_wp2_with fail
      refine (decode_any gt V I c _ HST5.out HSV.out k0 k1).mono ?_
      rintro e w6 ⟨rfl, hb6⟩
      have HB06 := Lib.hid (HB05.out.later hb6)
      have HB16 := Lib.hid (HB15.out.later hb6)
      have HR6 := Lib.hid (rowIs_below HR5.out hb6 HR5.out.lt)
      have HST6 := Lib.hid (HST5.out.below hb6)
      have HBW6 := Lib.hid (HBW5.out.trans (hb6.mono HBW5.out.size))
      clear hb6 HB05 HB15 HR5 HST5 HBW5 c0 c1
      have c0 := HB06.out.at 0 _ rfl
      have c1 := HB06.out.at 1 _ rfl
      have f0 := HB06.out.frozen 0
      have f1 := HB06.out.frozen 1
      have hM : k / 2 + 4 < N := by rw [HN.out]; omega
      have hM1 : (k : Int) / 2 < ((N - 4 : Nat) : Int) := by omega
      have hM0 : (0 : Int) ≤ (k : Int) / 2 := by omega
      have hrc : w6.cell? ⟨w.heap.size + 1 + 1 + 1, 4 + k / 2, none⟩ = some (.int .u8 (Dlt.part (v, i) zs k (k / 2))) := by rw [HR6.out.cell (by omega), Dlt.packAt_body]
      have hrf := HR6.out.frozen (4 + k / 2)
      have hd1 : w.heap.size ≠ w.heap.size + 1 + 1 + 1 := by omega
      have hd2 : w.heap.size + 1 + 1 + 1 ≠ w.heap.size := by omega
      by_cases hpar : k % 2 = 0
      · have hpe := Dlt.part_even (v, i) zs k hpar
        rw [hpe.1] at hrc
        have HPE := Lib.hid hpe.2
        have hpar' : (k : Int) % 2 = 0 := by omega
        clear hpe hpar
        go_wp2
        go_roundw
        case rel =>
          have h := pack_round hs3 HB06.out HB16.out HR6.out HST6.out HBW6.out (c * 16) (by rw [HPE.out, HCC.out]; omega) HS.out
          exact ⟨k + 1, by omega, by go_num, h⟩
        case measure => simp [intOf]; omega
      · have hpo := Dlt.part_odd (v, i) zs k (by omega)
        obtain ⟨p0, p1⟩ := Dlt.codeAt_bd (v, i) zs (k - 1)
        rw [hpo.1] at hrc
        have HPE := Lib.hid hpo.2
        generalize Dlt.codeAt (v, i) zs (k - 1) = cp at *
        have hpar' : (k : Int) % 2 = 1 := by omega
        clear hpo hpar
        go_wp2
        go_roundw
        case rel =>
          have h := pack_round hs3 HB06.out HB16.out HR6.out HST6.out HBW6.out (16 * cp + c) (by rw [HPE.out, HCC.out]) HS.out
          exact ⟨k + 1, by omega, by go_num, h⟩
        case measure => simp [intOf]; omega
    · obtain rfl : k = zs.length := by omega
      clear hA hz
      have HB0 := Lib.hid B0
      have HB1 := Lib.hid B1
      have HR := Lib.hid R
      have HB := Lib.hid hb
      generalize hV : (Dlt.stAt (v, i) zs zs.length).1 = V at *
      generalize hI : (Dlt.stAt (v, i) zs zs.length).2 = I at *
      have HV := Lib.hid hV
      have HI := Lib.hid hI
      have c0 := B0.at 0 _ rfl
      have c1 := B0.at 1 _ rfl
      have d0 := B1.at 0 _ rfl
      have d1 := B1.at 1 _ rfl
      have f0 := B1.frozen 0
      have f1 := B1.frozen 1
      clear B0 B1 R hst hb hV hI
      go_wp2
      go_region
      go_wp2
      refine bodyPost_ret (v := .tuple #[.slice (some ⟨w.heap.size + 1 + 1 + 1, 0, none⟩) N N, .agg #[.int .i64 V, .int .i64 I], .int .u8 0]) (by simp [results, Tryz.results92, go_sem, d0, d1]) rfl ?_
      have hbd := Dlt.packAt_bd (v, i) hv zs zs.length
      refine ⟨some ⟨w.heap.size + 1 + 1 + 1, 0, none⟩, N, by rw [HV.out, HI.out, HN.out], by rw [HN.out]; omega, ?_, ?_⟩
      · refine IntsAt.of_row (((HR.out.setOther (by simp; omega) _).setOther (by simp; omega) _).drew) (by rw [Dlt.packB_len, HN.out]; omega) fun j hj => ?_
        rw [Dlt.packB_len] at hj
        rw [Dlt.packB_at _ _ _ hj]
      · exact ((HB.out.setCell (by simp) _).setCell (by simp) _).drew
set_option maxRecDepth 100000 in
set_option maxHeartbeats 400000 in
theorem Pack_bad (v i : Int) (A : Option Addr) (n cap : Nat) (w : World) (hv : Dlt.valid v i = false) :
    Calls Tryz.prog 92 #[.agg #[.int .i64 v, .int .i64 i], .slice A n cap] w fun e w' => e = .returned (.tuple #[.slice none 0 0, .agg #[.int .i64 0, .int .i64 0], .int .u8 2]) ∧ Below w.heap.size w w' := by
  go_enter Tryz.func92, Tryz.ntmps92
  go_wp2_with fail
  refine (Valid_any v i _).mono ?_
  rintro e w' ⟨rfl, rfl⟩
  rw [hv]
  clear hv
  go_wp2_with fail
  refine bodyPost_ret (v := .tuple #[.slice none 0 0, .agg #[.int .i64 0, .int .i64 0], .int .u8 2]) (by simp [results, Tryz.results92, go_sem]) rfl ⟨rfl, ?_⟩
  repeat (first | exact Below.refl _ _ | refine Below.setCell ?_ (by simp) _ | refine Below.alloc ?_ (by simp; try omega) _)
set_option maxRecDepth 100000 in
set_option maxHeartbeats 400000 in
theorem Pack_long (v i : Int) (A : Option Addr) (n cap : Nat) (w : World) (hv : Dlt.valid v i = true) (h8 : 8000 < n) :
    Calls Tryz.prog 92 #[.agg #[.int .i64 v, .int .i64 i], .slice A n cap] w fun e w' => e = .returned (.tuple #[.slice none 0 0, .agg #[.int .i64 0, .int .i64 0], .int .u8 4]) ∧ Below w.heap.size w w' := by
  go_enter Tryz.func92, Tryz.ntmps92
  go_wp2_with fail
  refine (Valid_any v i _).mono ?_
  rintro e w' ⟨rfl, rfl⟩
  rw [hv]
  clear hv
  go_wp2_with fail
  refine bodyPost_ret (v := .tuple #[.slice none 0 0, .agg #[.int .i64 0, .int .i64 0], .int .u8 4]) (by simp [results, Tryz.results92, go_sem]) rfl ⟨rfl, ?_⟩
  repeat (first | exact Below.refl _ _ | refine Below.setCell ?_ (by simp) _ | refine Below.alloc ?_ (by simp; try omega) _)
set_option maxRecDepth 100000 in
set_option maxHeartbeats 1600000 in
theorem Pack_zero (v i : Int) (A : Option Addr) (cap : Nat) (w : World) (hv : Dlt.valid v i = true) :
    Calls Tryz.prog 92 #[.agg #[.int .i64 v, .int .i64 i], .slice A 0 cap] w fun e w' => ∃ (A' : Option Addr) (c' : Nat), e = .returned (.tuple #[.slice A' 4 c', .agg #[.int .i64 v, .int .i64 i], .int .u8 0]) ∧
      4 ≤ c' ∧ IntsAt w' w'.heap.size .u8 A' (Dlt.packB (v, i) []) ∧ Below w.heap.size w w' := by
  have hz89 := zero89
  have HI2 := Lib.hid szA_info
  obtain ⟨W0, hW0⟩ : ∃ W0, W0 = ((w.alloc (.cells #[.int .i64 v, .int .i64 i] 24)).alloc (.cells #[.int .i64 0, .int .i64 0] 24)).alloc (.cells #[.int .i64 v, .int .i64 i] 24) := ⟨_, rfl⟩
  obtain ⟨W1, hW1⟩ : ∃ W1, W1 = W0.alloc (.cells (madeCells #[.int .u8 0] 4) 5) := ⟨_, rfl⟩
  have hs0 : W0.heap.size = w.heap.size + 1 + 1 + 1 := by rw [hW0]; simp
  have hs1 : W1.heap.size = w.heap.size + 1 + 1 + 1 + 1 := by rw [hW1]; simp [hs0]
  have B0 : Blk W1 w.heap.size 24 #[.int .i64 v, .int .i64 i] := by rw [hW1, hW0]; exact ((((Blk.new w _ _).alloc _).alloc _).alloc _)
  have B1 : Blk W1 (w.heap.size + 1) 24 #[.int .i64 0, .int .i64 0] := by
    have h := Blk.new (w.alloc (.cells #[.int .i64 v, .int .i64 i] 24)) 24 #[.int .i64 0, .int .i64 0]
    rw [show (w.alloc (.cells #[.int .i64 v, .int .i64 i] 24)).heap.size = w.heap.size + 1 by simp] at h
    rw [hW1, hW0]; exact ((h.alloc _).alloc _)
  have R : W1.rowIs (w.heap.size + 1 + 1 + 1) 5 4 (fun _ => .int .u8 0) := by rw [hW1, ← hs0]; exact World.rowIs_made W0 _ _ _
  have hbw : Below w.heap.size w W1 := by
    rw [hW1, hW0]; exact ((((Below.refl _ w).alloc (Nat.le_refl _) _).alloc (by simp) _).alloc (by simp; omega) _).alloc (by simp; omega) _
  have hmk := run_make_row' (P := Tryz.prog) 22 5 (.int .u8 0) 1 Tryz.underlying22 del_u8 rfl .i64 .i64 4 (by omega) (by omega) W0
  rw [← hW1, hs0, hW0] at hmk
  change (Instr.makeSlice 22 (.int .i64 4) (.int .i64 4)).run Tryz.prog _ = _ at hmk
  have c0 := B0.at 0 _ rfl
  have c1 := B0.at 1 _ rfl
  have r0 := R.cell (i := 0) (by omega)
  have r1 := R.cell (i := 1) (by omega)
  have r2 := R.cell (i := 2) (by omega)
  have q0 := R.frozen 0
  have q1 := R.frozen 1
  have q2 := R.frozen 2
  have HB0 := Lib.hid B0
  have HB1 := Lib.hid B1
  have HR := Lib.hid R
  have HBW := Lib.hid hbw
  have HS1 := Lib.hid hs1
  clear hW1 hs0 hW0 hs1 B0 B1 R hbw
  go_enter Tryz.func92, Tryz.ntmps92
  go_wp2_with fail
  refine (Valid_any v i _).mono ?_
  rintro e w' ⟨rfl, rfl⟩
  rw [hv]
  go_wp2_with fail
  refine (blockSize_any 0 _ (by omega)).mono ?_
  rintro e w' ⟨rfl, rfl⟩
  go_wp2_with fail
  clear hmk
  go_region
  go_wp2_with fail
  refine (sizes_any _).mono ?_
  rintro e w3 ⟨rfl, hb3⟩
  have e1 : W1.heap.size = w.heap.size + 1 + 1 + 1 + 1 := HS1.out
  have hrow : (((W1.setCell ⟨w.heap.size + 1 + 1 + 1, 0, none⟩ (.int .u8 (IntKind.u16.wrap v / 256 % 256))).setCell ⟨w.heap.size + 1 + 1 + 1, 1, none⟩ (.int .u8 (IntKind.u16.wrap v % 256))).setCell ⟨w.heap.size + 1 + 1 + 1, 2, none⟩ (.int .u8 (i % 256))).drew.rowIs (w.heap.size + 1 + 1 + 1) 5 4 (fun j => .int .u8 (Dlt.packAt (v, i) [] 0 j)) :=
    (((HR.out.set 0 _).set 1 _).set 2 _).congr fun j hj => by
      obtain ⟨g1, g2, g3, g4⟩ := valid_true hv
      unfold Dlt.packAt Dlt.part
      rw [IntKind.wrap_u16]
      by_cases h2 : j = 2
      · subst h2; simp; omega
      · by_cases h1 : j = 1
        · subst h1; simp
        · by_cases h0 : j = 0
          · subst h0; simp; omega
          · simp [h0, h1, h2]
  have b0 : Blk (((W1.setCell ⟨w.heap.size + 1 + 1 + 1, 0, none⟩ (.int .u8 (IntKind.u16.wrap v / 256 % 256))).setCell ⟨w.heap.size + 1 + 1 + 1, 1, none⟩ (.int .u8 (IntKind.u16.wrap v % 256))).setCell ⟨w.heap.size + 1 + 1 + 1, 2, none⟩ (.int .u8 (i % 256))).drew w.heap.size 24 #[.int .i64 v, .int .i64 i] :=
    (((HB0.out.far (by simp; omega) _).far (by simp; omega) _).far (by simp; omega) _).drew
  have b1 : Blk (((W1.setCell ⟨w.heap.size + 1 + 1 + 1, 0, none⟩ (.int .u8 (IntKind.u16.wrap v / 256 % 256))).setCell ⟨w.heap.size + 1 + 1 + 1, 1, none⟩ (.int .u8 (IntKind.u16.wrap v % 256))).setCell ⟨w.heap.size + 1 + 1 + 1, 2, none⟩ (.int .u8 (i % 256))).drew (w.heap.size + 1) 24 #[.int .i64 0, .int .i64 0] :=
    (((HB1.out.far (by simp) _).far (by simp) _).far (by simp) _).drew
  have hbw2 : Below w.heap.size w (((W1.setCell ⟨w.heap.size + 1 + 1 + 1, 0, none⟩ (.int .u8 (IntKind.u16.wrap v / 256 % 256))).setCell ⟨w.heap.size + 1 + 1 + 1, 1, none⟩ (.int .u8 (IntKind.u16.wrap v % 256))).setCell ⟨w.heap.size + 1 + 1 + 1, 2, none⟩ (.int .u8 (i % 256))).drew :=
    (((HBW.out.setCell (by simp; omega) _).setCell (by simp; omega) _).setCell (by simp; omega) _).drew
  have hs3 : w.heap.size + 1 + 1 + 1 + 1 ≤ w3.heap.size := by have := hb3.size; simpa [e1, World.setCell] using this
  have HB0' := Lib.hid ((b0.later hb3).later (laid_below w3))
  have HB1' := Lib.hid ((b1.later hb3).later (laid_below w3))
  have HR' := Lib.hid (rowIs_below (rowIs_below hrow hb3 hrow.lt) (laid_below w3) (rowIs_below hrow hb3 hrow.lt).lt)
  have HBW' := Lib.hid ((hbw2.trans (hb3.mono hbw2.size)).trans ((laid_below w3).mono (by omega)))
  have HST := Lib.hid (laid_steps w3)
  have HT := Lib.hid (laid_there w3)
  clear hrow b0 b1 hbw2 hb3 HB0 HB1 HR HBW HS1 c0 c1 r0 r1 r2 q0 q1 q2 e1
  go_wp2_with (first
    | (refine wpList_store_mid rfl 198 (.tmp 10) (.tmp 48) (by rfl) w3.heap.size 0 Dlt.szA (by rfl) (by rfl) HT.out HI2.out szA_one ?_; change wpList _ _ _ _ _ (laidW w3); generalize laidW w3 = W4 at *; generalize w3.heap.size = gt at *; clear hz89 HT HI2)
    | fail)
  go_loopw [51] (fun q wr => q = .int .i64 0 ∧ Blk wr w.heap.size 24 #[.int .i64 v, .int .i64 i] ∧
      Blk wr (w.heap.size + 1) 24 #[.int .i64 0, .int .i64 0] ∧ wr.rowIs (w.heap.size + 1 + 1 + 1) 5 4 (fun j => .int .u8 (Dlt.packAt (v, i) [] 0 j)) ∧ Below w.heap.size w wr)
    (fun q _ => 0)
  case atStart => exact ⟨rfl, HB0'.out, HB1'.out, HR'.out, HBW'.out⟩
  case round =>
    obtain ⟨rfl, B0, B1, R, hb⟩ := hrel
    clear HB0' HB1' HR' HST HBW'
    have HB0 := Lib.hid B0
    have HB1 := Lib.hid B1
    have HR := Lib.hid R
    have HB := Lib.hid hb
    have c0 := B0.at 0 _ rfl
    have c1 := B0.at 1 _ rfl
    have d0 := B1.at 0 _ rfl
    have d1 := B1.at 1 _ rfl
    have f0 := B1.frozen 0
    have f1 := B1.frozen 1
    clear B0 B1 R hb
    go_wp2
    go_region
    go_wp2
    refine bodyPost_ret (v := .tuple #[.slice (some ⟨w.heap.size + 1 + 1 + 1, 0, none⟩) 4 4, .agg #[.int .i64 v, .int .i64 i], .int .u8 0]) (by simp [results, Tryz.results92, go_sem, d0, d1]) rfl ?_
    refine ⟨some ⟨w.heap.size + 1 + 1 + 1, 0, none⟩, 4, rfl, Nat.le_refl _, ?_, ?_⟩
    · refine IntsAt.of_row (((HR.out.setOther (by simp; omega) _).setOther (by simp; omega) _).drew) (by rw [Dlt.packB_len]; simp) fun j hj => ?_
      rw [Dlt.packB_len] at hj
      rw [Dlt.packB_at _ _ _ hj]
      rfl
    · exact ((HB.out.setCell (by simp) _).setCell (by simp) _).drew
end Go.Proofs.YtahbecinkciahaaGreat
/- Layer 28: Unpack of the program. -/
namespace Go.Proofs.YtahbecinkciahaaGreat
open Go.RowKit
set_option linter.unusedVariables false
attribute [local go_sem] setCell_drewN alloc_drewN
/-- a block that Unpack takes -/
def Dlt.okB (bs : List Int) (n : Nat) : Prop := bs.length = 4 + (n + 1) / 2 ∧ bs.getD 2 0 ≤ 88 ∧ bs.getD 3 0 = 0 ∧ (n % 2 = 1 → bs.getD (bs.length - 1) 0 % 16 = 0)
instance (bs : List Int) (n : Nat) : Decidable (Dlt.okB bs n) := by unfold Dlt.okB; infer_instance
theorem or_bytes (x0 x1 : Int) (a0 : 0 ≤ x0) (b0 : x0 ≤ 255) (a1 : 0 ≤ x1) (b1 : x1 ≤ 255) : bits BinOp.or IntKind.u16 (x0 * 256) x1 = 256 * x0 + x1 := by
  obtain ⟨n0, rfl⟩ := Int.eq_ofNat_of_zero_le a0
  obtain ⟨n1, rfl⟩ := Int.eq_ofNat_of_zero_le a1
  have e : ((n0 : Int) * 256) = ((n0 * 256 : Nat) : Int) := by omega
  have h : n0 * 256 ||| n1 = n0 * 256 + n1 := by
    rw [show (256 : Nat) = 2 ^ 8 from rfl, ← Nat.shiftLeft_eq, Nat.shiftLeft_add_eq_or_of_lt (by omega)]
  rw [e, u16_or_nat (n0 * 256) n1 (by omega) (by omega), h]
  omega
theorem wrap_i16_eq (n : Int) : IntKind.i16.wrap n = (n + 32768) % 65536 - 32768 := by
  simp [IntKind.wrap, IntKind.bits, IntKind.signed]
  try omega
theorem head_word (x0 x1 : Int) (a0 : 0 ≤ x0) (b0 : x0 ≤ 255) (a1 : 0 ≤ x1) (b1 : x1 ≤ 255) : wrap64 (IntKind.i16.wrap (bits BinOp.or IntKind.u16 (x0 * 256) x1)) = (256 * x0 + x1 + 32768) % 65536 - 32768 := by
  rw [or_bytes x0 x1 a0 b0 a1 b1, wrap_i16_eq, IntWalk.wrap64_in _ ⟨by omega, by omega⟩]
theorem Dlt.headS_valid (bs : List Int) (n : Nat) (h : Dlt.okB bs n) (hz : Within 0 255 bs) : Dlt.valid (Dlt.headS bs).1 (Dlt.headS bs).2 = true := by
  have h2 := (hz.at (i := 2) (by have := h.1; omega)).1
  have h3 := h.2.1
  unfold Dlt.headS
  generalize 256 * bs.getD 0 0 + bs.getD 1 0 = y
  generalize bs.getD 2 0 = z at *
  have e1 : -32768 ≤ (y + 32768) % 65536 - 32768 := by omega
  have e2 : (y + 32768) % 65536 - 32768 ≤ 32767 := by omega
  simp [Dlt.valid, e1, e2, h2, h3]
set_option maxRecDepth 100000 in
set_option maxHeartbeats 400000 in
theorem Unpack_range (n : Int) (A : Option Addr) (m cap : Nat) (w : World) (hn : n < 0 ∨ 8000 < n) :
    Calls Tryz.prog 94 #[.slice A m cap, .int .i64 n] w fun e w' => e = .returned (.tuple #[.slice none 0 0, .agg #[.int .i64 0, .int .i64 0], .int .u8 3]) ∧ Below w.heap.size w w' := by
  rcases hn with hn | hn
  all_goals
    go_enter Tryz.func94, Tryz.ntmps94
    go_wp2_with fail
    refine bodyPost_ret (v := .tuple #[.slice none 0 0, .agg #[.int .i64 0, .int .i64 0], .int .u8 3]) (by simp [results, Tryz.results94, go_sem]) rfl ⟨rfl, ?_⟩
    repeat (first | exact Below.refl _ _ | refine Below.setCell ?_ (by simp) _ | refine Below.alloc ?_ (by simp; try omega) _)
set_option maxRecDepth 100000 in
set_option maxHeartbeats 400000 in
theorem Unpack_short (n : Nat) (A : Option Addr) (m cap : Nat) (w : World) (hn : n ≤ 8000) (hm : m < 4 + (n + 1) / 2) :
    Calls Tryz.prog 94 #[.slice A m cap, .int .i64 n] w fun e w' => e = .returned (.tuple #[.slice none 0 0, .agg #[.int .i64 0, .int .i64 0], .int .u8 6]) ∧ Below w.heap.size w w' := by
  go_enter Tryz.func94, Tryz.ntmps94
  go_wp2_with fail
  refine (blockSize_any n _ hn).mono ?_
  rintro e w' ⟨rfl, rfl⟩
  generalize hs : 4 + (n + 1) / 2 = N at *
  go_wp2_with fail
  refine bodyPost_ret (v := .tuple #[.slice none 0 0, .agg #[.int .i64 0, .int .i64 0], .int .u8 6]) (by simp [results, Tryz.results94, go_sem]) rfl ⟨rfl, ?_⟩
  repeat (first | exact Below.refl _ _ | refine Below.setCell ?_ (by simp) _ | refine Below.alloc ?_ (by simp; try omega) _)
set_option maxRecDepth 100000 in
set_option maxHeartbeats 1600000 in
theorem Unpack_syntax (n : Nat) (A : Option Addr) (bs : List Int) (cap : Nat) (w : World) (hn : n ≤ 8000) (hA : IntsAt w w.heap.size .u8 A bs) (hz : Within 0 255 bs) (hm : 4 + (n + 1) / 2 ≤ bs.length) (hno : ¬Dlt.okB bs n) (hmax : bs.length ≤ maxLen) :
    Calls Tryz.prog 94 #[.slice A bs.length cap, .int .i64 n] w fun e w' => e = .returned (.tuple #[.slice none 0 0, .agg #[.int .i64 0, .int .i64 0], .int .u8 5]) ∧ Below w.heap.size w w' := by
  obtain ⟨b, off, rfl, hbB, hcell⟩ := hA (by omega)
  have c2 := hcell 2 (by omega)
  have c3 := hcell 3 (by omega)
  have cl := hcell (bs.length - 1) (by omega)
  obtain ⟨l0, l1⟩ := hz.at (i := bs.length - 1) (by omega)
  obtain ⟨g0, g1⟩ := hz.at (i := 2) (by omega)
  obtain ⟨t0, t1⟩ := hz.at (i := 3) (by omega)
  have hb' : b ≠ w.heap.size := by omega
  unfold Dlt.okB at hno
  generalize bs.getD 2 0 = x2 at *
  generalize bs.getD 3 0 = x3 at *
  generalize bs.getD (bs.length - 1) 0 = xl at *
  clear hA hz hcell
  generalize hM : bs.length = M at *
  unfold maxLen at hmax
  have hM4 : (4 : Int) ≤ (M : Int) := by omega
  have hM2 : (2 : Int) < (M : Int) := by omega
  have hM3 : (3 : Int) < (M : Int) := by omega
  have hl0 : (0 : Int) ≤ (M : Int) - 1 := by omega
  have hl1 : (M : Int) - 1 < (M : Int) := by omega
  have hl2 : ((M : Int) - 1).toNat = M - 1 := by omega
  have cc2 : (w.alloc (.cells #[.int .i64 0, .int .i64 0] 24)).cell? ⟨b, off + 2, none⟩ = some (.int .u8 x2) := (World.cell?_alloc_lt w _ _ hbB).trans c2
  have cc3 : (w.alloc (.cells #[.int .i64 0, .int .i64 0] 24)).cell? ⟨b, off + 3, none⟩ = some (.int .u8 x3) := (World.cell?_alloc_lt w _ _ hbB).trans c3
  have ccl : (w.alloc (.cells #[.int .i64 0, .int .i64 0] 24)).cell? ⟨b, off + (M - 1), none⟩ = some (.int .u8 xl) := (World.cell?_alloc_lt w _ _ hbB).trans cl
  clear c2 c3 cl
  generalize hs : 4 + (n + 1) / 2 = N at *
  have HS := Lib.hid hs
  have h : N < M ∨ (M = N ∧ 88 < x2) ∨ (M = N ∧ x2 ≤ 88 ∧ x3 ≠ 0) ∨ (M = N ∧ x2 ≤ 88 ∧ x3 = 0 ∧ (n : Int) % 2 = 1 ∧ xl % 16 ≠ 0) := by omega
  clear hno hs
  rcases h with h | ⟨rfl, h⟩ | ⟨rfl, h2, h3⟩ | ⟨rfl, h2, rfl, h4, h5⟩
  all_goals try have h5b : (xl % 16 != 0) = true := bne_iff_ne.2 h5
  all_goals
    go_enter Tryz.func94, Tryz.ntmps94
    go_wp2_with fail
    refine (blockSize_any n _ hn).mono ?_
    rintro e w' ⟨rfl, rfl⟩
    rw [HS.out]
    go_wp2_with fail
    refine (blockSize_any n _ hn).mono ?_
    rintro e w' ⟨rfl, rfl⟩
    rw [HS.out]
    go_wp2_with fail
    refine bodyPost_ret (v := .tuple #[.slice none 0 0, .agg #[.int .i64 0, .int .i64 0], .int .u8 5]) (by simp [results, Tryz.results94, go_sem]) rfl ⟨rfl, ?_⟩
    repeat (first | exact Below.refl _ _ | refine Below.setCell ?_ (by simp) _ | refine Below.alloc ?_ (by simp; try omega) _)
theorem unpack_round {w wo : World} {B gt n r k : Nat} {t t5 : TypeId} {s : Int × Int} {bs : List Int} {V I c : Int} (hg : B + 1 + 1 ≤ gt) (hgr : gt < r) (h0 : Blk w B t #[.int .i64 0, .int .i64 0]) (h1 : Blk w (B + 1) t #[.int .i64 V, .int .i64 I])
    (hr : w.rowIs r t5 n (fun j => .int .i16 (if j < k then (Dlt.dAt s bs (j + 1)).1 else 0))) (hs : StepsAt w gt) (hb : Below B wo w) (hst : Dlt.dAt s bs (k + 1) = (Dlt.nextV V I c, Dlt.nextI I c)) :
    Blk (((w.setCell ⟨B + 1, 0, none⟩ (.int .i64 (Dlt.nextV V I c))).setCell ⟨B + 1, 1, none⟩ (.int .i64 (Dlt.nextI I c))).setCell ⟨r, k, none⟩ (.int .i16 (Dlt.nextV V I c))) B t #[.int .i64 0, .int .i64 0] ∧
    Blk (((w.setCell ⟨B + 1, 0, none⟩ (.int .i64 (Dlt.nextV V I c))).setCell ⟨B + 1, 1, none⟩ (.int .i64 (Dlt.nextI I c))).setCell ⟨r, k, none⟩ (.int .i16 (Dlt.nextV V I c))) (B + 1) t #[.int .i64 (Dlt.dAt s bs (k + 1)).1, .int .i64 (Dlt.dAt s bs (k + 1)).2] ∧
    (((w.setCell ⟨B + 1, 0, none⟩ (.int .i64 (Dlt.nextV V I c))).setCell ⟨B + 1, 1, none⟩ (.int .i64 (Dlt.nextI I c))).setCell ⟨r, k, none⟩ (.int .i16 (Dlt.nextV V I c))).rowIs r t5 n (fun j => .int .i16 (if j < k + 1 then (Dlt.dAt s bs (j + 1)).1 else 0)) ∧
    StepsAt (((w.setCell ⟨B + 1, 0, none⟩ (.int .i64 (Dlt.nextV V I c))).setCell ⟨B + 1, 1, none⟩ (.int .i64 (Dlt.nextI I c))).setCell ⟨r, k, none⟩ (.int .i16 (Dlt.nextV V I c))) gt ∧
    Below B wo (((w.setCell ⟨B + 1, 0, none⟩ (.int .i64 (Dlt.nextV V I c))).setCell ⟨B + 1, 1, none⟩ (.int .i64 (Dlt.nextI I c))).setCell ⟨r, k, none⟩ (.int .i16 (Dlt.nextV V I c))) := by
  refine ⟨?_, ?_, ?_, ?_, ?_⟩
  · exact ((h0.far (by simp) _).far (by simp) _).far (by simp; omega) _
  · rw [hst]
    exact ((h1.set_ 0 _).set_ 1 _).far (by simp; omega) _
  · have h := rowIs_fill (g := fun j => (Dlt.dAt s bs (j + 1)).1) ((hr.setOther (a := ⟨B + 1, 0, none⟩) (by simp; omega) (.int .i64 (Dlt.nextV V I c))).setOther (a := ⟨B + 1, 1, none⟩) (by simp; omega) (.int .i64 (Dlt.nextI I c)))
    simp only [hst] at h
    exact h
  · exact ((hs.far (by simp; omega) _).far (by simp; omega) _).far (by simp; omega) _
  · exact ((hb.setCell (by simp) _).setCell (by simp) _).setCell (by simp; omega) _
end Go.Proofs.YtahbecinkciahaaGreat
/- Layer 28: Unpack of the reference. -/
namespace Go.Proofs.YtahbecinkciahaaGreat
open Go.RowKit
set_option linter.unusedVariables false
attribute [local go_sem] setCell_drewN alloc_drewN
set_option maxRecDepth 100000 in
set_option maxHeartbeats 400000 in
theorem rUnpack_range (n : Int) (A : Option Addr) (m cap : Nat) (w : World) (hn : n < 0 ∨ 8000 < n) :
    Calls Tryz.prog 89 #[.slice A m cap, .int .i64 n] w fun e w' => e = .returned (.tuple #[.slice none 0 0, .agg #[.int .i64 0, .int .i64 0], .int .u8 3]) ∧ Below w.heap.size w w' := by
  rcases hn with hn | hn
  all_goals
    go_enter Tryz.func89, Tryz.ntmps89
    go_wp2_with fail
    refine bodyPost_ret (v := .tuple #[.slice none 0 0, .agg #[.int .i64 0, .int .i64 0], .int .u8 3]) (by simp [results, Tryz.results89, go_sem]) rfl ⟨rfl, ?_⟩
    repeat (first | exact Below.refl _ _ | refine Below.setCell ?_ (by simp) _ | refine Below.alloc ?_ (by simp; try omega) _)
set_option maxRecDepth 100000 in
set_option maxHeartbeats 400000 in
theorem rUnpack_short (n : Nat) (A : Option Addr) (m cap : Nat) (w : World) (hn : n ≤ 8000) (hm : m < 4 + (n + 1) / 2) :
    Calls Tryz.prog 89 #[.slice A m cap, .int .i64 n] w fun e w' => e = .returned (.tuple #[.slice none 0 0, .agg #[.int .i64 0, .int .i64 0], .int .u8 6]) ∧ Below w.heap.size w w' := by
  go_enter Tryz.func89, Tryz.ntmps89
  go_wp2_with fail
  refine bodyPost_ret (v := .tuple #[.slice none 0 0, .agg #[.int .i64 0, .int .i64 0], .int .u8 6]) (by simp [results, Tryz.results89, go_sem]) rfl ⟨rfl, ?_⟩
  repeat (first | exact Below.refl _ _ | refine Below.setCell ?_ (by simp) _ | refine Below.alloc ?_ (by simp; try omega) _)
set_option maxRecDepth 100000 in
set_option maxHeartbeats 1600000 in
theorem rUnpack_syntax (n : Nat) (A : Option Addr) (bs : List Int) (cap : Nat) (w : World) (hn : n ≤ 8000) (hA : IntsAt w w.heap.size .u8 A bs) (hz : Within 0 255 bs) (hm : 4 + (n + 1) / 2 ≤ bs.length) (hno : ¬Dlt.okB bs n) (hmax : bs.length ≤ maxLen) :
    Calls Tryz.prog 89 #[.slice A bs.length cap, .int .i64 n] w fun e w' => e = .returned (.tuple #[.slice none 0 0, .agg #[.int .i64 0, .int .i64 0], .int .u8 5]) ∧ Below w.heap.size w w' := by
  obtain ⟨b, off, rfl, hbB, hcell⟩ := hA (by omega)
  have c2 := hcell 2 (by omega)
  have c3 := hcell 3 (by omega)
  have cl := hcell (bs.length - 1) (by omega)
  obtain ⟨l0, l1⟩ := hz.at (i := bs.length - 1) (by omega)
  obtain ⟨g0, g1⟩ := hz.at (i := 2) (by omega)
  obtain ⟨t0, t1⟩ := hz.at (i := 3) (by omega)
  have hb' : b ≠ w.heap.size := by omega
  unfold Dlt.okB at hno
  generalize bs.getD 2 0 = x2 at *
  generalize bs.getD 3 0 = x3 at *
  generalize bs.getD (bs.length - 1) 0 = xl at *
  clear hA hz hcell
  generalize hM : bs.length = M at *
  unfold maxLen at hmax
  have hM4 : (4 : Int) ≤ (M : Int) := by omega
  have hM2 : (2 : Int) < (M : Int) := by omega
  have hM3 : (3 : Int) < (M : Int) := by omega
  have hl0 : (0 : Int) ≤ (M : Int) - 1 := by omega
  have hl1 : (M : Int) - 1 < (M : Int) := by omega
  have hl2 : ((M : Int) - 1).toNat = M - 1 := by omega
  have cc2 : (w.alloc (.cells #[.int .i64 0, .int .i64 0] 24)).cell? ⟨b, off + 2, none⟩ = some (.int .u8 x2) := (World.cell?_alloc_lt w _ _ hbB).trans c2
  have cc3 : (w.alloc (.cells #[.int .i64 0, .int .i64 0] 24)).cell? ⟨b, off + 3, none⟩ = some (.int .u8 x3) := (World.cell?_alloc_lt w _ _ hbB).trans c3
  have ccl : (w.alloc (.cells #[.int .i64 0, .int .i64 0] 24)).cell? ⟨b, off + (M - 1), none⟩ = some (.int .u8 xl) := (World.cell?_alloc_lt w _ _ hbB).trans cl
  clear c2 c3 cl
  generalize hs : 4 + (n + 1) / 2 = N at *
  have HS := Lib.hid hs
  have hsI : (4 : Int) + ((n : Int) + 1) / 2 = (N : Int) := by omega
  have h : N < M ∨ (M = N ∧ 88 < x2) ∨ (M = N ∧ x2 ≤ 88 ∧ x3 ≠ 0) ∨ (M = N ∧ x2 ≤ 88 ∧ x3 = 0 ∧ (n : Int) % 2 = 1 ∧ xl % 16 ≠ 0) := by omega
  clear hno hs
  rcases h with h | ⟨rfl, h⟩ | ⟨rfl, h2, h3⟩ | ⟨rfl, h2, rfl, h4, h5⟩
  all_goals try have h5b : (xl % 16 != 0) = true := bne_iff_ne.2 h5
  all_goals
    go_enter Tryz.func89, Tryz.ntmps89
    go_wp2_with fail
    refine bodyPost_ret (v := .tuple #[.slice none 0 0, .agg #[.int .i64 0, .int .i64 0], .int .u8 5]) (by simp [results, Tryz.results89, go_sem]) rfl ⟨rfl, ?_⟩
    repeat (first | exact Below.refl _ _ | refine Below.setCell ?_ (by simp) _ | refine Below.alloc ?_ (by simp; try omega) _)
set_option maxRecDepth 100000 in
set_option maxHeartbeats 12800000 in
theorem rUnpack_ok (n : Nat) (A : Option Addr) (bs : List Int) (cap : Nat) (w : World) (hn : n ≤ 8000) (hA : IntsAt w w.heap.size .u8 A bs) (hz : Within 0 255 bs) (hok : Dlt.okB bs n) (hcap : bs.length ≤ cap) :
    Calls Tryz.prog 89 #[.slice A bs.length cap, .int .i64 n] w fun e w' => ∃ (A' : Option Addr) (c' : Nat), e = .returned (.tuple #[.slice A' n c', .agg #[.int .i64 (Dlt.dAt (Dlt.headS bs) bs n).1, .int .i64 (Dlt.dAt (Dlt.headS bs) bs n).2], .int .u8 0]) ∧
      IntsAt w' w'.heap.size .i16 A' (Dlt.unpackL bs n) ∧ Below w.heap.size w w' := by
  have HVAL := Lib.hid (Dlt.headS_valid bs n hok hz)
  obtain ⟨ok1, ok2, ok3, ok4⟩ := hok
  obtain ⟨b, off, rfl, hbB, hcell⟩ := hA (by omega)
  have c0 := hcell 0 (by omega)
  have c1 := hcell 1 (by omega)
  have c2 := hcell 2 (by omega)
  have c3 := hcell 3 (by omega)
  have cl := hcell (bs.length - 1) (by omega)
  obtain ⟨l0, l1⟩ := hz.at (i := bs.length - 1) (by omega)
  obtain ⟨a0, a1⟩ := hz.at (i := 0) (by omega)
  obtain ⟨b0, b1⟩ := hz.at (i := 1) (by omega)
  obtain ⟨g0, g1⟩ := hz.at (i := 2) (by omega)
  have hb' : b ≠ w.heap.size := by omega
  have hb'' : b ≠ w.heap.size + 1 := by omega
  generalize hx0 : bs.getD 0 0 = x0 at *
  generalize hx1 : bs.getD 1 0 = x1 at *
  generalize hx2 : bs.getD 2 0 = x2 at *
  generalize hx3 : bs.getD 3 0 = x3 at *
  have HX3 := Lib.hid (show bs.getD 3 0 = 0 by rw [hx3, ok3])
  subst ok3
  generalize bs.getD (bs.length - 1) 0 = xl at *
  have HX0 := Lib.hid hx0
  have HX1 := Lib.hid hx1
  have HX2 := Lib.hid hx2
  have HCELL := Lib.hid hcell
  have HZ := Lib.hid hz
  generalize hM : bs.length = M at *
  have HMM := Lib.hid hM
  clear hA hz hcell hx0 hx1 hx2 hM
  have hM4 : (4 : Int) ≤ (M : Int) := by omega
  have hM2 : (2 : Int) < (M : Int) := by omega
  have hM3 : (3 : Int) < (M : Int) := by omega
  have hM1 : (1 : Int) < (M : Int) := by omega
  have hM0 : (0 : Int) < (M : Int) := by omega
  have hl0 : (0 : Int) ≤ (M : Int) - 1 := by omega
  have hl1 : (M : Int) - 1 < (M : Int) := by omega
  have hl2 : ((M : Int) - 1).toNat = M - 1 := by omega
  have cc0 : (w.alloc (.cells #[.int .i64 0, .int .i64 0] 24)).cell? ⟨b, off, none⟩ = some (.int .u8 x0) := (World.cell?_alloc_lt w _ _ hbB).trans c0
  have cc1 : (w.alloc (.cells #[.int .i64 0, .int .i64 0] 24)).cell? ⟨b, off + 1, none⟩ = some (.int .u8 x1) := (World.cell?_alloc_lt w _ _ hbB).trans c1
  have cc2 : (w.alloc (.cells #[.int .i64 0, .int .i64 0] 24)).cell? ⟨b, off + 2, none⟩ = some (.int .u8 x2) := (World.cell?_alloc_lt w _ _ hbB).trans c2
  have cc3 : (w.alloc (.cells #[.int .i64 0, .int .i64 0] 24)).cell? ⟨b, off + 3, none⟩ = some (.int .u8 0) := (World.cell?_alloc_lt w _ _ hbB).trans c3
  have ccl : (w.alloc (.cells #[.int .i64 0, .int .i64 0] 24)).cell? ⟨b, off + (M - 1), none⟩ = some (.int .u8 xl) := (World.cell?_alloc_lt w _ _ hbB).trans cl
  have cd0 : ((w.alloc (.cells #[.int .i64 0, .int .i64 0] 24)).alloc (.cells #[.int .i64 0, .int .i64 0] 24)).cell? ⟨b, off, none⟩ = some (.int .u8 x0) := (World.cell?_alloc_lt _ _ _ (by simp; omega)).trans ((World.cell?_alloc_lt w _ _ hbB).trans c0)
  have cd1 : ((w.alloc (.cells #[.int .i64 0, .int .i64 0] 24)).alloc (.cells #[.int .i64 0, .int .i64 0] 24)).cell? ⟨b, off + 1, none⟩ = some (.int .u8 x1) := (World.cell?_alloc_lt _ _ _ (by simp; omega)).trans ((World.cell?_alloc_lt w _ _ hbB).trans c1)
  have cd2 : ((w.alloc (.cells #[.int .i64 0, .int .i64 0] 24)).alloc (.cells #[.int .i64 0, .int .i64 0] 24)).cell? ⟨b, off + 2, none⟩ = some (.int .u8 x2) := (World.cell?_alloc_lt _ _ _ (by simp; omega)).trans ((World.cell?_alloc_lt w _ _ hbB).trans c2)
  clear c0 c1 c2 c3 cl
  obtain ⟨N, hN⟩ : ∃ N, N = 4 + (n + 1) / 2 := ⟨_, rfl⟩
  obtain rfl : M = N := by omega
  have HS := Lib.hid hN.symm
  have hsI : (4 : Int) + ((n : Int) + 1) / 2 = (M : Int) := by omega
  have h5' : M ≤ 4005 := by omega
  clear hN ok1
  have hpar : (n : Int) % 2 = 0 ∨ ((n : Int) % 2 = 1 ∧ (xl % 16 != 0) = false) := by
    by_cases h : n % 2 = 1
    · exact .inr ⟨by omega, by have := ok4 h; simp [this]⟩
    · exact .inl (by omega)
  clear ok4
  have hword : ∃ v0 : Int, v0 = (256 * x0 + x1 + 32768) % 65536 - 32768 ∧ ((256 * x0 + x1 ≤ 32767 ∧ 256 * x0 + x1 = v0) ∨ (32767 < 256 * x0 + x1 ∧ 256 * x0 + x1 - 65536 = v0)) := ⟨_, rfl, by omega⟩
  obtain ⟨V0, hV0, hword⟩ := hword
  have HH : Hid (Dlt.headS bs = (V0, x2)) := Lib.hid (by unfold Dlt.headS; rw [HX0.out, HX1.out, HX2.out, hV0])
  have HSV0 : Hid (Dlt.valid V0 x2 = true) := Lib.hid (by have h := HVAL.out; rw [HH.out] at h; exact h)
  clear hV0
  go_enter Tryz.func89, Tryz.ntmps89
  rcases hpar with hp | ⟨hp, hq⟩
  all_goals rcases hword with ⟨hw1, hw2⟩ | ⟨hw1, hw2⟩
  all_goals
    go_wp2_with fail
    go_quiet (fail)
    go_wp2_with fail
    try rw [hw2]
    go_loopw [9, 10] (fun u q wr => ∃ (k : Nat) (A' : Option Addr) (c' : Nat) (xs : List Value), k ≤ n ∧ q = .int .i64 k ∧ u = .slice A' k c' ∧ Owns wr (w.heap.size + 1 + 1) 93 1 A' k c' xs ∧ Hid (xs = (List.range k).map (fun j => Value.int .i16 (Dlt.dAt (V0, x2) bs (j + 1)).1)) ∧
        Blk wr w.heap.size 24 #[.int .i64 0, .int .i64 0] ∧ Blk wr (w.heap.size + 1) 24 #[.int .i64 (Dlt.dAt (V0, x2) bs k).1, .int .i64 (Dlt.dAt (V0, x2) bs k).2] ∧ Below w.heap.size w wr)
      (fun _ q _ => n - (intOf q).toNat)
    case atStart =>
      refine ⟨0, none, 0, [], Nat.zero_le _, rfl, rfl, Owns.nil, Lib.hid rfl, ?_, ?_, ?_⟩
      · exact (Blk.new w _ _).alloc _
      · have h := Blk.new (w.alloc (.cells #[.int .i64 0, .int .i64 0] 24)) 24 #[.int .i64 V0, .int .i64 x2]
        rw [show (w.alloc (.cells #[.int .i64 0, .int .i64 0] 24)).heap.size = w.heap.size + 1 by simp] at h
        exact h
      · exact below_drewN (((Below.refl _ w).alloc (Nat.le_refl _) _).alloc (by simp) _) _
    case round =>
      obtain ⟨k, A', c', xs, hk, rfl, rfl, hown, HX, B0, B1, hb⟩ := hrel
      have HSV := Lib.hid (Dlt.dAt_valid (V0, x2) HSV0.out bs k)
      have HNX : Hid (Dlt.dAt (V0, x2) bs (k + 1) = (Dlt.nextV (Dlt.dAt (V0, x2) bs k).1 (Dlt.dAt (V0, x2) bs k).2 (Dlt.nib bs k), Dlt.nextI (Dlt.dAt (V0, x2) bs k).2 (Dlt.nib bs k))) := Lib.hid rfl
      by_cases hlt : k < n
      · have hM6 : 4 + k / 2 < M := by have := HS.out; omega
        have hck : wr.cell? ⟨b, off + (4 + k / 2), none⟩ = some (.int .u8 (bs.getD (4 + k / 2) 0)) := (hb.cell (p := ⟨b, off + (4 + k / 2), none⟩) hbB).trans (HCELL.out _ hM6)
        have hzk := HZ.out.at (i := 4 + k / 2) (by rw [HMM.out]; exact hM6)
        have hnib : Dlt.nib bs k = if k % 2 = 0 then bs.getD (4 + k / 2) 0 / 16 else bs.getD (4 + k / 2) 0 % 16 := rfl
        generalize bs.getD (4 + k / 2) 0 = x at hck hzk hnib
        obtain ⟨z0, z1⟩ := hzk
        generalize hc : Dlt.nib bs k = c at *
        generalize hV : (Dlt.dAt (V0, x2) bs k).1 = V at *
        generalize hI : (Dlt.dAt (V0, x2) bs k).2 = I at *
        have HC := Lib.hid hnib
        have c0 := B1.at 0 _ rfl
        have c1 := B1.at 1 _ rfl
        have f0 := B1.frozen 0
        have f1 := B1.frozen 1
        have HB0 := Lib.hid B0
        have HB1 := Lib.hid B1
        have HO := Lib.hid hown
        have HB := Lib.hid hb
        have hn0 : (0 : Int) ≤ 4 + (k : Int) / 2 := by omega
        have hn2 : 4 + (k : Int) / 2 < (M : Int) := by omega
        have hn3 : (4 + (k : Int) / 2).toNat = 4 + k / 2 := by omega
        have hk0 : (0 : Int) ≤ (k : Int) := by omega
        have hk1 : (k : Int) < (n : Int) := by omega
        clear B0 B1 hown hb hV hI hc hnib
        by_cases hpar : k % 2 = 0
        · have hpar' : (k : Int) % 2 = 0 := by omega
          have hce : x / 16 = c := by have := HC.out; rw [if_pos hpar] at this; omega
          have HCE := Lib.hid hce
          clear hpar hce
          go_wp2_with fail
          refine (rNext_any V I _ _ HSV.out (by omega) (by omega)).mono ?_
          rintro e w6 ⟨rfl, hb6⟩
          rw [HCE.out]
          have HB06 := Lib.hid (HB0.out.later hb6)
          have HB16 := Lib.hid (HB1.out.later hb6)
          have HO6 := Lib.hid (HO.out.below hb6)
          have HBW6 := Lib.hid (HB.out.trans (hb6.mono HB.out.size))
          clear hb6 HB0 HB1 HO HB c0 c1 f0 f1 hck
          have c0 := HB16.out.at 0 _ rfl
          have c1 := HB16.out.at 1 _ rfl
          have f0 := HB16.out.frozen 0
          have f1 := HB16.out.frozen 1
          have hbs2 := HB16.out.lt
          have HO7 : Hid (Owns ((w6.setCell ⟨w.heap.size + 1, 0, none⟩ (.int .i64 (Dlt.nextV V I c))).setCell ⟨w.heap.size + 1, 1, none⟩ (.int .i64 (Dlt.nextI I c))) (w.heap.size + 1 + 1) 93 1 A' k c' xs) :=
            Lib.hid ((HO6.out.setCell (fun g hg => by have := (HO6.out.block g hg).1; simp; omega) _).setCell (fun g hg => by have := (HO6.out.block g hg).1; simp; omega) _)
          have HSZ : Hid (((w6.setCell ⟨w.heap.size + 1, 0, none⟩ (.int .i64 (Dlt.nextV V I c))).setCell ⟨w.heap.size + 1, 1, none⟩ (.int .i64 (Dlt.nextI I c))).heap.size = w6.heap.size) := Lib.hid (by simp [World.setCell])
          obtain ⟨nv0, nv1⟩ := Dlt.nextV_bd V I c
          go_wp2_with (at_builtin; go_loud (refine wpList_append_one rfl _ _ 66 rfl (w.heap.size + 1 + 1) 93 1 2 (.int .i16 0) Tryz.underlying66 del_i16 rfl (by decide) A' k c' xs rfl HO7.out [.int .i16 (Dlt.nextV V I c)] rfl (by simp [Value.oneCell']) (by rw [HSZ.out]; rfl) (by unfold maxLen; omega) (by omega) (by rw [HSZ.out]; omega) ?_); intro A2 c2 w2 hown2 hg2 hlt2)
          go_roundw
          case rel =>
            refine ⟨k + 1, A2, c2, _, by omega, by go_num, rfl, hown2, Lib.hid ?_, ?_, ?_, ?_⟩
            · rw [HX.out, List.range_succ, List.map_append, List.map_singleton, HNX.out]
            · exact ((HB06.out.far (by simp) _).far (by simp) _).grown hg2 (fun h => by have := (HO7.out.block _ h.symm).1; omega)
            · rw [HNX.out]
              exact ((HB16.out.set_ 0 _).set_ 1 _).grown hg2 (fun h => by have := (HO7.out.block _ h.symm).1; omega)
            · exact below_own ((HBW6.out.setCell (by simp) _).setCell (by simp) _) HO7.out hg2 (by simp; omega) (by omega)
          case measure => simp [intOf]; omega
        · have hpar' : (k : Int) % 2 = 1 := by omega
          have hce : x % 16 = c := by have := HC.out; rw [if_neg hpar] at this; omega
          have HCE := Lib.hid hce
          clear hpar hce
          go_wp2_with fail
          refine (rNext_any V I _ _ HSV.out (by omega) (by omega)).mono ?_
          rintro e w6 ⟨rfl, hb6⟩
          rw [HCE.out]
          have HB06 := Lib.hid (HB0.out.later hb6)
          have HB16 := Lib.hid (HB1.out.later hb6)
          have HO6 := Lib.hid (HO.out.below hb6)
          have HBW6 := Lib.hid (HB.out.trans (hb6.mono HB.out.size))
          clear hb6 HB0 HB1 HO HB c0 c1 f0 f1 hck
          have c0 := HB16.out.at 0 _ rfl
          have c1 := HB16.out.at 1 _ rfl
          have f0 := HB16.out.frozen 0
          have f1 := HB16.out.frozen 1
          have hbs2 := HB16.out.lt
          have HO7 : Hid (Owns ((w6.setCell ⟨w.heap.size + 1, 0, none⟩ (.int .i64 (Dlt.nextV V I c))).setCell ⟨w.heap.size + 1, 1, none⟩ (.int .i64 (Dlt.nextI I c))) (w.heap.size + 1 + 1) 93 1 A' k c' xs) :=
            Lib.hid ((HO6.out.setCell (fun g hg => by have := (HO6.out.block g hg).1; simp; omega) _).setCell (fun g hg => by have := (HO6.out.block g hg).1; simp; omega) _)
          have HSZ : Hid (((w6.setCell ⟨w.heap.size + 1, 0, none⟩ (.int .i64 (Dlt.nextV V I c))).setCell ⟨w.heap.size + 1, 1, none⟩ (.int .i64 (Dlt.nextI I c))).heap.size = w6.heap.size) := Lib.hid (by simp [World.setCell])
          obtain ⟨nv0, nv1⟩ := Dlt.nextV_bd V I c
          go_wp2_with (at_builtin; go_loud (refine wpList_append_one rfl _ _ 66 rfl (w.heap.size + 1 + 1) 93 1 2 (.int .i16 0) Tryz.underlying66 del_i16 rfl (by decide) A' k c' xs rfl HO7.out [.int .i16 (Dlt.nextV V I c)] rfl (by simp [Value.oneCell']) (by rw [HSZ.out]; rfl) (by unfold maxLen; omega) (by omega) (by rw [HSZ.out]; omega) ?_); intro A2 c2 w2 hown2 hg2 hlt2)
          go_roundw
          case rel =>
            refine ⟨k + 1, A2, c2, _, by omega, by go_num, rfl, hown2, Lib.hid ?_, ?_, ?_, ?_⟩
            · rw [HX.out, List.range_succ, List.map_append, List.map_singleton, HNX.out]
            · exact ((HB06.out.far (by simp) _).far (by simp) _).grown hg2 (fun h => by have := (HO7.out.block _ h.symm).1; omega)
            · rw [HNX.out]
              exact ((HB16.out.set_ 0 _).set_ 1 _).grown hg2 (fun h => by have := (HO7.out.block _ h.symm).1; omega)
            · exact below_own ((HBW6.out.setCell (by simp) _).setCell (by simp) _) HO7.out hg2 (by simp; omega) (by omega)
          case measure => simp [intOf]; omega
      · obtain rfl : k = n := by omega
        have HB0 := Lib.hid B0
        have HB1 := Lib.hid B1
        have HO := Lib.hid hown
        have HB := Lib.hid hb
        have HHH := Lib.hid (show Dlt.headS bs = (V0, x2) from HH.out)
        generalize hV : (Dlt.dAt (V0, x2) bs k).1 = V at *
        generalize hI : (Dlt.dAt (V0, x2) bs k).2 = I at *
        have HV := Lib.hid hV
        have HI := Lib.hid hI
        have c0 := B1.at 0 _ rfl
        have c1 := B1.at 1 _ rfl
        have d0 := B0.at 0 _ rfl
        have d1 := B0.at 1 _ rfl
        have f0 := B0.frozen 0
        have f1 := B0.frozen 1
        clear B0 B1 hown hb hV hI
        go_wp2
        go_region
        go_wp2
        refine bodyPost_ret (v := .tuple #[.slice A' k c', .agg #[.int .i64 V, .int .i64 I], .int .u8 0]) (by simp [results, Tryz.results89, go_sem, d0, d1]) rfl ?_
        refine ⟨A', c', by rw [HHH.out, HV.out, HI.out], ?_, ?_⟩
        · have h : Owns _ (w.heap.size + 1 + 1) 93 1 A' k c' xs := ((HO.out.setCell (p := ⟨w.heap.size, 0, none⟩) (fun g' hg => by have := (HO.out.block _ hg).1; simp; omega) (.int .i64 V)).setCell (p := ⟨w.heap.size, 1, none⟩) (fun g' hg => by have := (HO.out.block _ hg).1; simp; omega) (.int .i64 I)).drew
          have e : xs = (Dlt.unpackL bs k).map (Value.int .i16) := by rw [HX.out, Dlt.unpackL, HHH.out, List.map_map]; rfl
          rw [e] at h
          exact h.ints
        · exact ((HB.out.setCell (by simp) _).setCell (by simp) _).drew
end Go.Proofs.YtahbecinkciahaaGreat
/- Layer 28: Unpack of the program, no samples. -/
namespace Go.Proofs.YtahbecinkciahaaGreat
open Go.RowKit
set_option linter.unusedVariables false
attribute [local go_sem] setCell_drewN alloc_drewN
set_option maxRecDepth 100000 in
set_option maxHeartbeats 12800000 in
theorem Unpack_zero (A : Option Addr) (bs : List Int) (cap : Nat) (w : World) (hA : IntsAt w w.heap.size .u8 A bs) (hz : Within 0 255 bs) (hok : Dlt.okB bs 0) (hcap : bs.length ≤ cap) :
    Calls Tryz.prog 94 #[.slice A bs.length cap, .int .i64 0] w fun e w' => ∃ (A' : Option Addr) (c' : Nat), e = .returned (.tuple #[.slice A' 0 c', .agg #[.int .i64 (Dlt.dAt (Dlt.headS bs) bs 0).1, .int .i64 (Dlt.dAt (Dlt.headS bs) bs 0).2], .int .u8 0]) ∧
      IntsAt w' w'.heap.size .i16 A' (Dlt.unpackL bs 0) ∧ Below w.heap.size w w' := by
  have HVAL := Lib.hid (Dlt.headS_valid bs 0 hok hz)
  obtain ⟨ok1, ok2, ok3, ok4⟩ := hok
  obtain ⟨b, off, rfl, hbB, hcell⟩ := hA (by omega)
  have c0 := hcell 0 (by omega)
  have c1 := hcell 1 (by omega)
  have c2 := hcell 2 (by omega)
  have c3 := hcell 3 (by omega)
  obtain ⟨a0, a1⟩ := hz.at (i := 0) (by omega)
  obtain ⟨b0, b1⟩ := hz.at (i := 1) (by omega)
  obtain ⟨g0, g1⟩ := hz.at (i := 2) (by omega)
  have hb' : b ≠ w.heap.size := by omega
  have hb'' : b ≠ w.heap.size + 1 := by omega
  generalize hx0 : bs.getD 0 0 = x0 at *
  generalize hx1 : bs.getD 1 0 = x1 at *
  generalize hx2 : bs.getD 2 0 = x2 at *
  generalize hx3 : bs.getD 3 0 = x3 at *
  have HX3 := Lib.hid (show bs.getD 3 0 = 0 by rw [hx3, ok3])
  subst ok3
  have HX0 := Lib.hid hx0
  have HX1 := Lib.hid hx1
  have HX2 := Lib.hid hx2
  have HCELL := Lib.hid hcell
  have HZ := Lib.hid hz
  generalize hM : bs.length = M at *
  have HMM := Lib.hid hM
  clear hA hz hcell hx0 hx1 hx2 hM
  obtain rfl : M = 4 := by omega
  clear ok1 ok4
  have cc0 : (w.alloc (.cells #[.int .i64 0, .int .i64 0] 24)).cell? ⟨b, off, none⟩ = some (.int .u8 x0) := (World.cell?_alloc_lt w _ _ hbB).trans c0
  have cc1 : (w.alloc (.cells #[.int .i64 0, .int .i64 0] 24)).cell? ⟨b, off + 1, none⟩ = some (.int .u8 x1) := (World.cell?_alloc_lt w _ _ hbB).trans c1
  have cc2 : (w.alloc (.cells #[.int .i64 0, .int .i64 0] 24)).cell? ⟨b, off + 2, none⟩ = some (.int .u8 x2) := (World.cell?_alloc_lt w _ _ hbB).trans c2
  have cc3 : (w.alloc (.cells #[.int .i64 0, .int .i64 0] 24)).cell? ⟨b, off + 3, none⟩ = some (.int .u8 0) := (World.cell?_alloc_lt w _ _ hbB).trans c3
  have cd0 : ((w.alloc (.cells #[.int .i64 0, .int .i64 0] 24)).alloc (.cells #[.int .i64 0, .int .i64 0] 24)).cell? ⟨b, off, none⟩ = some (.int .u8 x0) := (World.cell?_alloc_lt _ _ _ (by simp; omega)).trans ((World.cell?_alloc_lt w _ _ hbB).trans c0)
  have cd1 : ((w.alloc (.cells #[.int .i64 0, .int .i64 0] 24)).alloc (.cells #[.int .i64 0, .int .i64 0] 24)).cell? ⟨b, off + 1, none⟩ = some (.int .u8 x1) := (World.cell?_alloc_lt _ _ _ (by simp; omega)).trans ((World.cell?_alloc_lt w _ _ hbB).trans c1)
  have cd2 : ((w.alloc (.cells #[.int .i64 0, .int .i64 0] 24)).alloc (.cells #[.int .i64 0, .int .i64 0] 24)).cell? ⟨b, off + 2, none⟩ = some (.int .u8 x2) := (World.cell?_alloc_lt _ _ _ (by simp; omega)).trans ((World.cell?_alloc_lt w _ _ hbB).trans c2)
  clear c0 c1 c2 c3
  go_enter Tryz.func94, Tryz.ntmps94
  go_wp2_with fail
  refine (blockSize_any 0 _ (by omega)).mono ?_
  rintro e w' ⟨rfl, rfl⟩
  go_wp2_with fail
  refine (blockSize_any 0 _ (by omega)).mono ?_
  rintro e w' ⟨rfl, rfl⟩
  have HI2 := Lib.hid szA_info
  have hz89 := zero89
  all_goals
    go_wp2_with fail
    go_region
    go_wp2_with fail
    have hhw := head_word x0 x1 a0 a1 b0 b1
    generalize wrap64 (IntKind.i16.wrap (bits BinOp.or IntKind.u16 (x0 * 256) x1)) = V0 at *
    refine (sizes_any _).mono ?_
    rintro e w3 ⟨rfl, hb3⟩
    have b0 : Blk ((w.alloc (.cells #[.int .i64 0, .int .i64 0] 24)).alloc (.cells #[.int .i64 V0, .int .i64 x2] 24)).drew w.heap.size 24 #[.int .i64 0, .int .i64 0] := ((Blk.new w _ _).alloc _).drew
    have b1 : Blk ((w.alloc (.cells #[.int .i64 0, .int .i64 0] 24)).alloc (.cells #[.int .i64 V0, .int .i64 x2] 24)).drew (w.heap.size + 1) 24 #[.int .i64 V0, .int .i64 x2] := by
      have h := Blk.new (w.alloc (.cells #[.int .i64 0, .int .i64 0] 24)) 24 #[.int .i64 V0, .int .i64 x2]
      rw [show (w.alloc (.cells #[.int .i64 0, .int .i64 0] 24)).heap.size = w.heap.size + 1 by simp] at h
      exact h.drew
    have hbw : Below w.heap.size w ((w.alloc (.cells #[.int .i64 0, .int .i64 0] 24)).alloc (.cells #[.int .i64 V0, .int .i64 x2] 24)).drew := (((Below.refl _ w).alloc (Nat.le_refl _) _).alloc (by simp) _).drew
    have hs3 : w.heap.size + 1 + 1 ≤ w3.heap.size := by have := hb3.size; simpa using this
    have HB0 := Lib.hid ((b0.later hb3).later (laid_below w3))
    have HB1 := Lib.hid ((b1.later hb3).later (laid_below w3))
    have HBW := Lib.hid ((hbw.trans (hb3.mono hbw.size)).trans ((laid_below w3).mono (by omega)))
    have HST := Lib.hid (laid_steps w3)
    have HT := Lib.hid (laid_there w3)
    have HSZ := Lib.hid (laid_size w3)
    have hmk := run_make_row' (P := Tryz.prog) 66 93 (.int .i16 0) 2 Tryz.underlying66 del_i16 rfl .i64 .i64 0 (by omega) (by omega) (laidW w3)
    change (Instr.makeSlice 66 (.int .i64 0) (.int .i64 0)).run Tryz.prog _ = _ at hmk
    clear b0 b1 hbw hb3 cc0 cc1 cc2 cc3 cd0 cd1 cd2
    go_wp2_with (first
      | (refine wpList_store_mid rfl 198 (.tmp 9) (.tmp 82) (by rfl) w3.heap.size 0 Dlt.szA (by rfl) (by rfl) HT.out HI2.out szA_one ?_; change wpList _ _ _ _ _ (laidW w3); generalize laidW w3 = W4 at *; generalize w3.heap.size = gt at *; clear hz89 HT HI2)
      | fail)
    have HH : Hid (Dlt.headS bs = (V0, x2)) := Lib.hid (by unfold Dlt.headS; rw [HX0.out, HX1.out, HX2.out, hhw])
    have HSV0 : Hid (Dlt.valid V0 x2 = true) := Lib.hid (by have h := HVAL.out; rw [HH.out] at h; exact h)
    generalize hr : W4.heap.size = r at *
    have hs4 : w.heap.size + 1 + 1 ≤ r := by have := HSZ.out; omega
    have HSZ' := Lib.hid HSZ.out
    clear hmk hhw
    go_loopw [86] (fun q wr => q = .int .i64 0 ∧ Blk wr w.heap.size 24 #[.int .i64 0, .int .i64 0] ∧
        Blk wr (w.heap.size + 1) 24 #[.int .i64 V0, .int .i64 x2] ∧ Below w.heap.size w wr)
      (fun q _ => 0)
    case atStart => exact ⟨rfl, HB0.out.alloc _, HB1.out.alloc _, HBW.out.alloc (by omega) _⟩
    case round =>
      obtain ⟨rfl, B0, B1, hb⟩ := hrel
      clear HB0 HB1 HST HBW
      have HHH := Lib.hid (show Dlt.headS bs = (V0, x2) from HH.out)
      have HB := Lib.hid hb
      have c0 := B1.at 0 _ rfl
      have c1 := B1.at 1 _ rfl
      have d0 := B0.at 0 _ rfl
      have d1 := B0.at 1 _ rfl
      have f0 := B0.frozen 0
      have f1 := B0.frozen 1
      clear B0 B1 hb
      go_wp2
      go_region
      go_wp2
      refine bodyPost_ret (v := .tuple #[.slice (some ⟨r, 0, none⟩) 0 0, .agg #[.int .i64 V0, .int .i64 x2], .int .u8 0]) (by simp [results, Tryz.results94, go_sem, d0, d1]) rfl ?_
      refine ⟨some ⟨r, 0, none⟩, 0, by rw [HHH.out]; rfl, ?_, ?_⟩
      · exact IntsAt.nil
      · exact ((HB.out.setCell (by simp) _).setCell (by simp) _).drew
end Go.Proofs.YtahbecinkciahaaGreat
/- Layer 28: Pack of the reference. -/
namespace Go.Proofs.YtahbecinkciahaaGreat
open Go.RowKit
set_option linter.unusedVariables false
attribute [local go_sem] setCell_drewN alloc_drewN
/-- the cells of the block behind k samples -/
def Dlt.rowK (s : Int × Int) (zs : List Int) (k : Nat) : List Value := (List.range (4 + (k + 1) / 2)).map fun j => Value.int .u8 (Dlt.packAt s zs k j)
theorem Dlt.rowK_even (s : Int × Int) (zs : List Int) (k : Nat) (h : k % 2 = 0) : Dlt.rowK s zs (k + 1) = Dlt.rowK s zs k ++ [.int .u8 (16 * Dlt.codeAt s zs k)] := by
  unfold Dlt.rowK
  rw [show 4 + (k + 1 + 1) / 2 = (4 + (k + 1) / 2) + 1 by omega, List.range_succ, List.map_append]
  congr 1
  · refine List.map_congr_left fun j hj => ?_
    have hj' : j < 4 + (k + 1) / 2 := by simpa using hj
    rw [Dlt.packAt_set, if_neg (by omega)]
  · rw [List.map_singleton, Dlt.packAt_set, if_pos (by omega), (Dlt.part_even s zs k h).2]
theorem Dlt.rowK_odd (s : Int × Int) (zs : List Int) (k : Nat) (h : k % 2 = 1) : Dlt.rowK s zs (k + 1) = (Dlt.rowK s zs k).set (4 + k / 2) (.int .u8 (16 * Dlt.codeAt s zs (k - 1) + Dlt.codeAt s zs k)) := by
  unfold Dlt.rowK
  rw [show 4 + (k + 1 + 1) / 2 = 4 + (k + 1) / 2 by omega]
  refine List.ext_getElem (by simp) fun j h1 h2 => ?_
  have hj : j < 4 + (k + 1) / 2 := by simpa using h1
  rw [List.getElem_set]
  simp only [List.getElem_map, List.getElem_range]
  rw [Dlt.packAt_set]
  by_cases e : j = 4 + k / 2
  · rw [if_pos e, if_pos e.symm, (Dlt.part_odd s zs k h).2]
  · rw [if_neg e, if_neg (fun h => e h.symm)]
theorem Dlt.rowK_last (s : Int × Int) (zs : List Int) (k : Nat) (h : k % 2 = 1) : (Dlt.rowK s zs k)[4 + k / 2]? = some (.int .u8 (16 * Dlt.codeAt s zs (k - 1))) := by
  unfold Dlt.rowK
  rw [List.getElem?_map, List.getElem?_range (by omega)]
  show some (Value.int .u8 (Dlt.packAt s zs k (4 + k / 2))) = _
  rw [Dlt.packAt_body, (Dlt.part_odd s zs k h).1]
theorem Dlt.rowK_all (s : Int × Int) (zs : List Int) : Dlt.rowK s zs zs.length = (Dlt.packB s zs).map (Value.int .u8) := by
  unfold Dlt.rowK Dlt.packB
  rw [List.map_map]
  rfl
set_option maxRecDepth 100000 in
set_option maxHeartbeats 1600000 in
theorem rPack_ok (v i : Int) (A : Option Addr) (zs : List Int) (cap : Nat) (w : World) (hv : Dlt.valid v i = true) (hA : IntsAt w w.heap.size .i16 A zs) (hz : Within (-32768) 32767 zs) (h8 : zs.length ≤ 8000) :
    Calls Tryz.prog 86 #[.agg #[.int .i64 v, .int .i64 i], .slice A zs.length cap] w fun e w' => ∃ (A' : Option Addr) (c' : Nat), e = .returned (.tuple #[.slice A' (4 + (zs.length + 1) / 2) c', .agg #[.int .i64 (Dlt.stAt (v, i) zs zs.length).1, .int .i64 (Dlt.stAt (v, i) zs zs.length).2], .int .u8 0]) ∧
      IntsAt w' w'.heap.size .u8 A' (Dlt.packB (v, i) zs) ∧ Below w.heap.size w w' := by
  have hvv := valid_true hv
  obtain ⟨g1, g2, g3, g4⟩ := hvv
  go_enter Tryz.func86, Tryz.ntmps86
  go_wp2_with fail
  refine (rValid_any v i _).mono ?_
  rintro e w' ⟨rfl, rfl⟩
  rw [hv]
  go_wp2_with fail
  rw [show (v + 65536) % 65536 = v % 65536 by omega]
  generalize hq : v % 65536 = q
  go_loopw [8, 9] (fun u q wr => ∃ (k : Nat) (A' : Option Addr) (c' n : Nat) (xs : List Value), k ≤ zs.length ∧ q = .int .i64 k ∧ u = .slice A' n c' ∧ Hid (n = 4 + (k + 1) / 2) ∧ Hid (xs = Dlt.rowK (v, i) zs k) ∧ Owns wr (w.heap.size + 1 + 1) 5 1 A' n c' xs ∧
      Blk wr w.heap.size 24 #[.int .i64 (Dlt.stAt (v, i) zs k).1, .int .i64 (Dlt.stAt (v, i) zs k).2] ∧
      Blk wr (w.heap.size + 1) 24 #[.int .i64 0, .int .i64 0] ∧ Below w.heap.size w wr)
    (fun _ q _ => zs.length - (intOf q).toNat)
  case atStart =>
    subst hq
    refine ⟨0, _, _, _, _, Nat.zero_le _, rfl, rfl, rfl, rfl, ?_, ?_, ?_, ?_⟩
    · have hs : (((w.alloc (.cells #[.int .i64 v, .int .i64 i] 24)).alloc (.cells #[.int .i64 0, .int .i64 0] 24)).alloc (.cells #[.int .i64 v, .int .i64 i] 24)).heap.size = w.heap.size + 1 + 1 + 1 := by simp
      have h := World.ownsRow_lit (base := w.heap.size + 1 + 1) (e := 5) (size := 1) (((w.alloc (.cells #[.int .i64 v, .int .i64 i] 24)).alloc (.cells #[.int .i64 0, .int .i64 0] 24)).alloc (.cells #[.int .i64 v, .int .i64 i] 24)) #[.int .u8 (v % 65536 / 256), .int .u8 (v % 256), .int .u8 i, .int .u8 0] 4 (by simp) (by unfold maxLen; omega) rfl
      have e0 : Dlt.rowK (v, i) zs 0 = [.int .u8 (v % 65536 / 256), .int .u8 (v % 256), .int .u8 i, .int .u8 0] := rfl
      rw [e0]
      rw [hs] at h
      exact h
    · exact (((Blk.new w _ _).alloc _).alloc _).alloc _
    · have h := Blk.new (w.alloc (.cells #[.int .i64 v, .int .i64 i] 24)) 24 #[.int .i64 0, .int .i64 0]
      rw [show (w.alloc (.cells #[.int .i64 v, .int .i64 i] 24)).heap.size = w.heap.size + 1 by simp] at h
      exact (h.alloc _).alloc _
    · exact ((((Below.refl _ w).alloc (Nat.le_refl _) _).alloc (by simp) _).alloc (by simp; omega) _).alloc (by simp; omega) _
  case round =>
    obtain ⟨k, A', c', n, xs, hk, rfl, rfl, HN, HX, hown, B0, B1, hb⟩ := hrel
    have HSV := Lib.hid (Dlt.stAt_valid (v, i) hv zs k)
    by_cases hlt : k < zs.length
    · obtain ⟨b, off, rfl, hbB, hcell⟩ := hA (by omega)
      have hzk := hz.at hlt
      have hck : wr.cell? ⟨b, off + k, none⟩ = some (.int .i16 (zs.getD k 0)) := (hb.cell (p := ⟨b, off + k, none⟩) hbB).trans (hcell k hlt)
      have HS := Lib.hid (Dlt.stAt_succ (v, i) zs k hlt)
      have hcd : Dlt.code (Dlt.stAt (v, i) zs k).1 (Dlt.stAt (v, i) zs k).2 (zs.getD k 0) = Dlt.codeAt (v, i) zs k := rfl
      obtain ⟨k0, k1⟩ := Dlt.codeAt_bd (v, i) zs k
      generalize hcc : Dlt.codeAt (v, i) zs k = c at *
      have HCC := Lib.hid hcc
      generalize zs.getD k 0 = z at hck hzk hcd
      have HC := Lib.hid hcd
      obtain ⟨z0, z1⟩ := hzk
      clear hcell hcd hcc
      generalize hV : (Dlt.stAt (v, i) zs k).1 = V at *
      generalize hI : (Dlt.stAt (v, i) zs k).2 = I at *
      have HV := Lib.hid hV
      have HI := Lib.hid hI
      have c0 := B0.at 0 _ rfl
      have c1 := B0.at 1 _ rfl
      have HB0 := Lib.hid B0
      have HB1 := Lib.hid B1
      have HO := Lib.hid hown
      have HB := Lib.hid hb
      have hn0 : (0 : Int) ≤ (k : Int) := by omega
      have hn1 : (k : Int) < (zs.length : Int) := by omega
      clear B0 B1 hb hV hI hown
      go_wp2
      go_still_tail 5, (by kernel_rfl)
      change wpList _ _ _ _ _ wr.drew
      go_wp2_with fail
      refine (rCode_any V I z wr.drew HSV.out z0 z1).mono ?_
      rintro e w5 ⟨rfl, hb5⟩
      rw [HC.out]
      have HB05 := Lib.hid (HB0.out.drew.later hb5)
      have HB15 := Lib.hid (HB1.out.drew.later hb5)
      have HO5 := Lib.hid (HO.out.drew.below hb5)
      have HBW5 := Lib.hid (HB.out.drew.trans (hb5.mono HB.out.size))
      clear hb5 HB0 HB1 HO HB c0 c1 hck
      have c0 := HB05.out.at 0 _ rfl
      have c1 := HB05.out.at 1 _ rfl
      go_wp2_with fail
      refine (rNext_any V I c _ HSV.out k0 k1).mono ?_
      rintro e w6 ⟨rfl, hb6⟩
      have HB06 := Lib.hid (HB05.out.later hb6)
      have HB16 := Lib.hid (HB15.out.later hb6)
      have HO6 := Lib.hid (HO5.out.below hb6)
      have HBW6 := Lib.hid (HBW5.out.trans (hb6.mono HBW5.out.size))
      clear hb6 HB05 HB15 HO5 HBW5 c0 c1
      have c0 := HB06.out.at 0 _ rfl
      have c1 := HB06.out.at 1 _ rfl
      have f0 := HB06.out.frozen 0
      have f1 := HB06.out.frozen 1
      have hbs := HBW6.out.size
      have hbs2 := HB16.out.lt
      by_cases hpar : k % 2 = 0
      · have hpar' : (k : Int) % 2 = 0 := by omega
        have HP := Lib.hid hpar
        have HM := Lib.hid (show n = 4 + (k + 1) / 2 from HN.out)
        have HO7 : Hid (Owns ((w6.setCell ⟨w.heap.size, 0, none⟩ (.int .i64 (Dlt.nextV V I c))).setCell ⟨w.heap.size, 1, none⟩ (.int .i64 (Dlt.nextI I c))) (w.heap.size + 1 + 1) 5 1 A' n c' xs) :=
          Lib.hid ((HO6.out.setCell (fun g hg => by have := (HO6.out.block g hg).1; simp; omega) _).setCell (fun g hg => by have := (HO6.out.block g hg).1; simp; omega) _)
        have hn2 : n ≤ 4004 := by rw [HN.out]; omega
        have HSZ : Hid (((w6.setCell ⟨w.heap.size, 0, none⟩ (.int .i64 (Dlt.nextV V I c))).setCell ⟨w.heap.size, 1, none⟩ (.int .i64 (Dlt.nextI I c))).heap.size = w6.heap.size) := Lib.hid (by simp [World.setCell])
        clear hpar
        go_wp2_with (at_builtin; go_loud (refine wpList_append_one rfl _ _ 22 rfl (w.heap.size + 1 + 1) 5 1 1 (.int .u8 0) Tryz.underlying22 del_u8 rfl (by decide) A' n c' xs rfl HO7.out [.int .u8 (16 * c)] rfl (by simp [Value.oneCell']) (by rw [HSZ.out]; rfl) (by unfold maxLen; omega) (by omega) (by rw [HSZ.out]; omega) ?_); intro A2 c2 w2 hown2 hg2 hlt2)
        go_roundw
        case rel =>
          refine ⟨k + 1, A2, c2, n + 1, xs ++ [.int .u8 (16 * c)], by omega, by go_num, rfl, Lib.hid (by rw [HN.out]; have := HP.out; omega), Lib.hid (by rw [HX.out, Dlt.rowK_even _ _ _ HP.out, HCC.out]), hown2, ?_, ?_, ?_⟩
          · rw [HS.out]
            exact ((HB06.out.set_ 0 _).set_ 1 _).grown hg2 (fun h => by have := (HO7.out.block _ h.symm).1; omega)
          · exact ((HB16.out.far (by simp) _).far (by simp) _).grown hg2 (fun h => by have := (HO7.out.block _ h.symm).1; omega)
          · exact below_own ((HBW6.out.setCell (by simp) _).setCell (by simp) _) HO7.out hg2 (by simp; omega) (by omega)
        case measure => simp [intOf]; omega
      · have hpar' : (k : Int) % 2 = 1 := by omega
        have HP := Lib.hid (show k % 2 = 1 by omega)
        obtain ⟨p0, p1⟩ := Dlt.codeAt_bd (v, i) zs (k - 1)
        have HL := Dlt.rowK_last (v, i) zs k HP.out
        rw [← HX.out] at HL
        have HO6' := Dlt.rowK_odd (v, i) zs k HP.out
        rw [HCC.out] at HO6'
        generalize Dlt.codeAt (v, i) zs (k - 1) = cp at *
        have HR := Lib.hid HO6'
        clear HO6'
        obtain ⟨g, rfl, hg0, hg1⟩ := HO6.out.form (by rw [HN.out]; omega)
        obtain ⟨M, hM⟩ : ∃ M, M = 4 + k / 2 := ⟨_, rfl⟩
        obtain rfl : n = M + 1 := by rw [HN.out]; omega
        rw [← hM] at HL
        have HM := Lib.hid hM
        have hM2 : M ≤ 4004 := by omega
        have hn3 : ((M + 1 : Nat) : Int) - 1 = (M : Int) := by omega
        have hrc : w6.cell? ⟨g, M, none⟩ = some (.int .u8 (16 * cp)) := by
          have h := World.ownsRow.cellAt HO6.out M (by omega)
          rw [h, HL]
        have hrf : w6.frozen? ⟨g, M, none⟩ = false := World.ownsRow.frozenAt HO6.out M
        have hd1 : w.heap.size ≠ g := by omega
        have hd2 : g ≠ w.heap.size := by omega
        clear hpar hM HL
        go_wp2
        go_roundw
        case rel =>
          have h := World.ownsRow.stored ((HO6.out.setCell (p := ⟨w.heap.size, 0, none⟩) (fun g' hg => by injection hg with hg; subst hg; simp; omega) (.int .i64 (Dlt.nextV V I c))).setCell (p := ⟨w.heap.size, 1, none⟩) (fun g' hg => by injection hg with hg; subst hg; simp; omega) (.int .i64 (Dlt.nextI I c))) M (.int .u8 (16 * cp + c))
          refine ⟨k + 1, some ⟨g, 0, none⟩, c', M + 1, xs.set M (.int .u8 (16 * cp + c)), by omega, by go_num, rfl, Lib.hid (by rw [HM.out]; have := HP.out; omega), Lib.hid (by rw [HR.out, HX.out, HM.out]), h.1, ?_, ?_, ?_⟩
          · rw [HS.out]
            exact ((HB06.out.set_ 0 _).set_ 1 _).far (by simp; omega) _
          · exact ((HB16.out.far (by simp) _).far (by simp) _).far (by simp; omega) _
          · exact ((HBW6.out.setCell (by simp) _).setCell (by simp) _).setCell (by simp; omega) _
        case measure => simp [intOf]; omega
    · obtain rfl : k = zs.length := by omega
      clear hA hz
      have HB0 := Lib.hid B0
      have HB1 := Lib.hid B1
      have HO := Lib.hid hown
      have HB := Lib.hid hb
      obtain ⟨g, rfl, hg0, hg1⟩ := hown.form (by rw [HN.out]; omega)
      generalize hV : (Dlt.stAt (v, i) zs zs.length).1 = V at *
      generalize hI : (Dlt.stAt (v, i) zs zs.length).2 = I at *
      have HV := Lib.hid hV
      have HI := Lib.hid hI
      have c0 := B0.at 0 _ rfl
      have c1 := B0.at 1 _ rfl
      have d0 := B1.at 0 _ rfl
      have d1 := B1.at 1 _ rfl
      have f0 := B1.frozen 0
      have f1 := B1.frozen 1
      clear B0 B1 hb hV hI hown
      go_wp2
      go_region
      go_wp2
      refine bodyPost_ret (v := .tuple #[.slice (some ⟨g, 0, none⟩) n c', .agg #[.int .i64 V, .int .i64 I], .int .u8 0]) (by simp [results, Tryz.results86, go_sem, d0, d1]) rfl ?_
      refine ⟨some ⟨g, 0, none⟩, c', by rw [HV.out, HI.out, HN.out], ?_, ?_⟩
      · have h : Owns _ (w.heap.size + 1 + 1) 5 1 (some ⟨g, 0, none⟩) n c' xs := ((HO.out.setCell (p := ⟨w.heap.size + 1, 0, none⟩) (fun g' hg => by injection hg with hg; subst hg; simp; omega) (.int .i64 V)).setCell (p := ⟨w.heap.size + 1, 1, none⟩) (fun g' hg => by injection hg with hg; subst hg; simp; omega) (.int .i64 I)).drew
        rw [HX.out, Dlt.rowK_all] at h
        exact h.ints
      · exact ((HB.out.setCell (by simp) _).setCell (by simp) _).drew
set_option maxRecDepth 100000 in
set_option maxHeartbeats 400000 in
theorem rPack_bad (v i : Int) (A : Option Addr) (n cap : Nat) (w : World) (hv : Dlt.valid v i = false) :
    Calls Tryz.prog 86 #[.agg #[.int .i64 v, .int .i64 i], .slice A n cap] w fun e w' => e = .returned (.tuple #[.slice none 0 0, .agg #[.int .i64 0, .int .i64 0], .int .u8 2]) ∧ Below w.heap.size w w' := by
  go_enter Tryz.func86, Tryz.ntmps86
  go_wp2_with fail
  refine (rValid_any v i _).mono ?_
  rintro e w' ⟨rfl, rfl⟩
  rw [hv]
  clear hv
  go_wp2_with fail
  refine bodyPost_ret (v := .tuple #[.slice none 0 0, .agg #[.int .i64 0, .int .i64 0], .int .u8 2]) (by simp [results, Tryz.results86, go_sem]) rfl ⟨rfl, ?_⟩
  repeat (first | exact Below.refl _ _ | refine Below.setCell ?_ (by simp) _ | refine Below.alloc ?_ (by simp; try omega) _)
set_option maxRecDepth 100000 in
set_option maxHeartbeats 400000 in
theorem rPack_long (v i : Int) (A : Option Addr) (n cap : Nat) (w : World) (hv : Dlt.valid v i = true) (h8 : 8000 < n) :
    Calls Tryz.prog 86 #[.agg #[.int .i64 v, .int .i64 i], .slice A n cap] w fun e w' => e = .returned (.tuple #[.slice none 0 0, .agg #[.int .i64 0, .int .i64 0], .int .u8 4]) ∧ Below w.heap.size w w' := by
  go_enter Tryz.func86, Tryz.ntmps86
  go_wp2_with fail
  refine (rValid_any v i _).mono ?_
  rintro e w' ⟨rfl, rfl⟩
  rw [hv]
  clear hv
  go_wp2_with fail
  refine bodyPost_ret (v := .tuple #[.slice none 0 0, .agg #[.int .i64 0, .int .i64 0], .int .u8 4]) (by simp [results, Tryz.results86, go_sem]) rfl ⟨rfl, ?_⟩
  repeat (first | exact Below.refl _ _ | refine Below.setCell ?_ (by simp) _ | refine Below.alloc ?_ (by simp; try omega) _)
end Go.Proofs.YtahbecinkciahaaGreat
/- Layer 28: one contract for each function of the program and of the reference, over all inputs; Same, size, lives. -/
namespace Go.Proofs.YtahbecinkciahaaGreat
open Go.RowKit
set_option linter.unusedVariables false

/-- what Encode returns: code, value, index, error -/
def Dlt.encR (v i x : Int) : Int × Int × Int × Int := if Dlt.valid v i = true then (Dlt.code v i x, Dlt.nextV v i (Dlt.code v i x), Dlt.nextI i (Dlt.code v i x), 0) else (0, 0, 0, 2)
/-- what Decode returns: sample, value, index, error -/
def Dlt.decR (v i c : Int) : Int × Int × Int × Int := if Dlt.valid v i = true then (if c ≤ 15 then (Dlt.nextV v i c, Dlt.nextV v i c, Dlt.nextI i c, 0) else (0, 0, 0, 3)) else (0, 0, 0, 2)
/-- what Pack returns: bytes, value, index, error -/
def Dlt.packR (v i : Int) (zs : List Int) : List Int × Int × Int × Int :=
  if Dlt.valid v i = true then (if zs.length ≤ 8000 then (Dlt.packB (v, i) zs, (Dlt.stAt (v, i) zs zs.length).1, (Dlt.stAt (v, i) zs zs.length).2, 0) else ([], 0, 0, 4)) else ([], 0, 0, 2)
/-- what Unpack returns: samples, value, index, error -/
def Dlt.unpR (bs : List Int) (n : Int) : List Int × Int × Int × Int :=
  if n < 0 ∨ 8000 < n then ([], 0, 0, 3) else if bs.length < 4 + (n.toNat + 1) / 2 then ([], 0, 0, 6) else
    if Dlt.okB bs n.toNat then (Dlt.unpackL bs n.toNat, (Dlt.dAt (Dlt.headS bs) bs n.toNat).1, (Dlt.dAt (Dlt.headS bs) bs n.toNat).2, 0) else ([], 0, 0, 5)
section
variable (v i x : Int) (w : World)
variable (A : Option Addr) (zs : List Int) (cap : Nat)
theorem Pack_full (hA : IntsAt w w.heap.size .i16 A zs) (hz : Within (-32768) 32767 zs) :
    Calls Tryz.prog 92 #[.agg #[.int .i64 v, .int .i64 i], .slice A zs.length cap] w fun e w' => ∃ (A' : Option Addr) (c' : Nat), e = .returned (.tuple #[.slice A' (Dlt.packR v i zs).1.length c', .agg #[.int .i64 (Dlt.packR v i zs).2.1, .int .i64 (Dlt.packR v i zs).2.2.1], .int .u8 (Dlt.packR v i zs).2.2.2]) ∧
      (Dlt.packR v i zs).1.length ≤ c' ∧ IntsAt w' w'.heap.size .u8 A' (Dlt.packR v i zs).1 ∧ Below w.heap.size w w' := by
  unfold Dlt.packR
  by_cases hv : Dlt.valid v i = true
  · rw [if_pos hv]
    by_cases h8 : zs.length ≤ 8000
    · rw [if_pos h8]
      refine (?_ : Calls _ _ _ _ (fun e w' => ∃ (A' : Option Addr) (c' : Nat), e = .returned (.tuple #[.slice A' (4 + (zs.length + 1) / 2) c', .agg #[.int .i64 (Dlt.stAt (v, i) zs zs.length).1, .int .i64 (Dlt.stAt (v, i) zs zs.length).2], .int .u8 0]) ∧ 4 + (zs.length + 1) / 2 ≤ c' ∧ IntsAt w' w'.heap.size .u8 A' (Dlt.packB (v, i) zs) ∧ Below w.heap.size w w')).mono ?_
      · rcases Nat.eq_zero_or_pos zs.length with h0 | h0
        · obtain rfl := List.eq_nil_of_length_eq_zero h0
          exact Pack_zero v i A cap w hv
        · exact Pack_ok v i A zs cap w hv hA hz h8 h0
      · rintro e w' ⟨A', c', rfl, hc, h⟩
        exact ⟨A', c', by rw [Dlt.packB_len], by rw [Dlt.packB_len]; exact hc, h⟩
    · rw [if_neg h8]
      refine (Pack_long v i A zs.length cap w hv (by omega)).mono ?_
      rintro e w' ⟨rfl, hb⟩
      exact ⟨none, 0, rfl, Nat.le_refl _, IntsAt.nil, hb⟩
  · rw [if_neg hv]
    refine (Pack_bad v i A zs.length cap w (by simpa using hv)).mono ?_
    rintro e w' ⟨rfl, hb⟩
    exact ⟨none, 0, rfl, Nat.le_refl _, IntsAt.nil, hb⟩
theorem Pack_any (hA : IntsAt w w.heap.size .i16 A zs) (hz : Within (-32768) 32767 zs) :
    Calls Tryz.prog 92 #[.agg #[.int .i64 v, .int .i64 i], .slice A zs.length cap] w fun e w' => ∃ (A' : Option Addr) (c' : Nat), e = .returned (.tuple #[.slice A' (Dlt.packR v i zs).1.length c', .agg #[.int .i64 (Dlt.packR v i zs).2.1, .int .i64 (Dlt.packR v i zs).2.2.1], .int .u8 (Dlt.packR v i zs).2.2.2]) ∧
      IntsAt w' w'.heap.size .u8 A' (Dlt.packR v i zs).1 ∧ Below w.heap.size w w' := by
  refine (Pack_full v i w A zs cap hA hz).mono ?_
  rintro e w' ⟨A', c', h1, _, h2⟩
  exact ⟨A', c', h1, h2⟩
theorem rPack_any (hA : IntsAt w w.heap.size .i16 A zs) (hz : Within (-32768) 32767 zs) :
    Calls Tryz.prog 86 #[.agg #[.int .i64 v, .int .i64 i], .slice A zs.length cap] w fun e w' => ∃ (A' : Option Addr) (c' : Nat), e = .returned (.tuple #[.slice A' (Dlt.packR v i zs).1.length c', .agg #[.int .i64 (Dlt.packR v i zs).2.1, .int .i64 (Dlt.packR v i zs).2.2.1], .int .u8 (Dlt.packR v i zs).2.2.2]) ∧
      IntsAt w' w'.heap.size .u8 A' (Dlt.packR v i zs).1 ∧ Below w.heap.size w w' := by
  unfold Dlt.packR
  by_cases hv : Dlt.valid v i = true
  · rw [if_pos hv]
    by_cases h8 : zs.length ≤ 8000
    · rw [if_pos h8]
      refine (rPack_ok v i A zs cap w hv hA hz h8).mono ?_
      rintro e w' ⟨A', c', rfl, h⟩
      exact ⟨A', c', by rw [Dlt.packB_len], h⟩
    · rw [if_neg h8]
      refine (rPack_long v i A zs.length cap w hv (by omega)).mono ?_
      rintro e w' ⟨rfl, hb⟩
      exact ⟨none, 0, rfl, IntsAt.nil, hb⟩
  · rw [if_neg hv]
    refine (rPack_bad v i A zs.length cap w (by simpa using hv)).mono ?_
    rintro e w' ⟨rfl, hb⟩
    exact ⟨none, 0, rfl, IntsAt.nil, hb⟩
variable (bs : List Int) (n : Int)
theorem Dlt.unpackL_len (bs : List Int) (n : Nat) : (Dlt.unpackL bs n).length = n := by simp [Dlt.unpackL]
theorem rUnpack_any (hA : IntsAt w w.heap.size .u8 A bs) (hz : Within 0 255 bs) (hcap : bs.length ≤ cap) (hmax : bs.length ≤ maxLen) :
    Calls Tryz.prog 89 #[.slice A bs.length cap, .int .i64 n] w fun e w' => ∃ (A' : Option Addr) (c' : Nat), e = .returned (.tuple #[.slice A' (Dlt.unpR bs n).1.length c', .agg #[.int .i64 (Dlt.unpR bs n).2.1, .int .i64 (Dlt.unpR bs n).2.2.1], .int .u8 (Dlt.unpR bs n).2.2.2]) ∧
      IntsAt w' w'.heap.size .i16 A' (Dlt.unpR bs n).1 ∧ Below w.heap.size w w' := by
  unfold Dlt.unpR
  by_cases hr : n < 0 ∨ 8000 < n
  · rw [if_pos hr]
    refine (rUnpack_range n A bs.length cap w hr).mono ?_
    rintro e w' ⟨rfl, hb⟩
    exact ⟨none, 0, rfl, IntsAt.nil, hb⟩
  · rw [if_neg hr]
    obtain ⟨m, rfl⟩ := Int.eq_ofNat_of_zero_le (a := n) (by omega)
    rw [Int.toNat_natCast]
    by_cases hs : bs.length < 4 + (m + 1) / 2
    · rw [if_pos hs]
      refine (rUnpack_short m A bs.length cap w (by omega) hs).mono ?_
      rintro e w' ⟨rfl, hb⟩
      exact ⟨none, 0, rfl, IntsAt.nil, hb⟩
    · rw [if_neg hs]
      by_cases hk : Dlt.okB bs m
      · rw [if_pos hk]
        refine (rUnpack_ok m A bs cap w (by omega) hA hz hk hcap).mono ?_
        rintro e w' ⟨A', c', rfl, h⟩
        exact ⟨A', c', by rw [Dlt.unpackL_len], h⟩
      · rw [if_neg hk]
        refine (rUnpack_syntax m A bs cap w (by omega) hA hz (by omega) hk hmax).mono ?_
        rintro e w' ⟨rfl, hb⟩
        exact ⟨none, 0, rfl, IntsAt.nil, hb⟩
end
end Go.Proofs.YtahbecinkciahaaGreat
/- Layer 27: what each function on one sample or one code returns, for the program and for the reference: the plain functions of XCmpPlain. -/
namespace Go.Proofs.YtahbecinkciahaaGreat
open Go.RowKit
set_option linter.unusedVariables false
theorem ret_int {k : IntKind} {a b : Int} (h : a = b) : Ending.returned (.int k a) = .returned (.int k b) := by rw [h]

theorem pow_wrap (k : Nat) (h : k < 7) : wrap64 (2 ^ (k + 8)) = 2 ^ (k + 8) := by
  have : ∀ k : Fin 7, wrap64 (2 ^ (k.val + 8)) = 2 ^ (k.val + 8) := by decide +kernel
  exact this ⟨k, h⟩
theorem expo_eq (m : Int) (k : Nat) (h0 : 0 ≤ m) (h1 : m ≤ 32767) (hk : k < 7) (hge : k = 0 ∨ 2 ^ (k + 7) ≤ m) (hlt : m < wrap64 (2 ^ (k + 8))) : (k : Int) = (Cmp.expo m.toNat : Nat) := by
  obtain ⟨n, rfl⟩ := Int.eq_ofNat_of_zero_le h0
  rw [pow_wrap k hk] at hlt
  simp only [Int.toNat_natCast]
  have h7 : k = 0 ∨ k = 1 ∨ k = 2 ∨ k = 3 ∨ k = 4 ∨ k = 5 ∨ k = 6 := by omega
  unfold Cmp.expo
  rcases h7 with rfl | rfl | rfl | rfl | rfl | rfl | rfl <;> simp at hge hlt <;> (repeat' split) <;> omega
theorem expo_eq7 (m : Int) (h0 : 0 ≤ m) (h1 : m ≤ 32767) (hge : 2 ^ (7 + 7) ≤ m) : 7 = ((Cmp.expo m.toNat : Nat) : Int) := by
  obtain ⟨n, rfl⟩ := Int.eq_ofNat_of_zero_le h0
  simp only [Int.toNat_natCast]
  unfold Cmp.expo
  simp at hge
  (repeat' split) <;> omega
set_option maxRecDepth 100000 in
set_option maxHeartbeats 400000 in
theorem exponent_any (m : Int) (w : World) (h0 : 0 ≤ m) (h1 : m ≤ 32767) :
    Calls Tryz.prog 186 #[.int .i64 m] w fun e w' => e = .returned (.int .i64 (Cmp.expo m.toNat)) ∧ w' = w := by
  go_enter Tryz.func186, Tryz.ntmps186
  go_wp2
  go_loop [4] (fun i => ∃ k : Nat, k ≤ 7 ∧ (k = 0 ∨ 2 ^ (k + 7) ≤ m) ∧ i = .int .i64 k) (fun i => 7 - (intOf i).toNat)
  case atStart => exact ⟨0, by omega, .inl rfl, rfl⟩
  case round =>
    obtain ⟨k, hk, hge, rfl⟩ := hrel
    have H := Lib.hid hge
    clear hge
    go_wp2
    · go_ret
      exact ⟨ret_int (expo_eq m k h0 h1 (by omega) H.out (by assumption)), rfl⟩
    · have hlt : (k : Int) < 7 := by assumption
      have hge' : wrap64 (2 ^ (k + 8)) ≤ m := by assumption
      rw [pow_wrap k (by omega)] at hge'
      go_round
      case rel => exact ⟨k + 1, by omega, .inr hge', by go_num⟩
      case measure => simp [intOf]; omega
    · have h7 : k = 7 := by omega
      subst h7
      go_ret
      exact ⟨ret_int (expo_eq7 m h0 h1 (H.out.resolve_left (by omega))), rfl⟩
theorem exponent_k (m : Int) (w : World) (h0 : 0 ≤ m) (h1 : m ≤ 32767) :
    Calls Tryz.prog 186 #[.int .i64 m] w fun e w' => ∃ k : Nat, k ≤ 7 ∧ Hid (k = Cmp.expo m.toNat) ∧ e = .returned (.int .i64 k) ∧ w = w' :=
  (exponent_any m w h0 h1).mono fun e w' ⟨he, hw⟩ => ⟨Cmp.expo m.toNat, Cmp.expo_le _, rfl, he, hw.symm⟩

set_option maxRecDepth 100000 in
set_option maxHeartbeats 400000 in
theorem Mu_any (x : Int) (w : World) (h0 : -32768 ≤ x) (h1 : x ≤ 32767) :
    Calls Tryz.prog 184 #[.int .i16 x] w fun e w' => e = .returned (.int .u8 (Cmp.mu x)) ∧ w = w' := by
  by_cases hx : x < 0
  · by_cases hy : 32635 < -x
    all_goals
      go_enter Tryz.func184, Tryz.ntmps184
      go_wp2_with (go_at_call 186; refine (exponent_k _ _ (by omega) (by omega)).mono ?_; rintro e w' ⟨k, hk, HK, rfl, rfl⟩)
      go_ret
      refine ⟨ret_int (Cmp.mu_close x 127 _ k (by rw [if_pos hx]) (by unfold Cmp.magMu; omega) ?_), rfl⟩
      rw [HK.out]
  · by_cases hy : 32635 < x
    all_goals
      go_enter Tryz.func184, Tryz.ntmps184
      go_wp2_with (go_at_call 186; refine (exponent_k _ _ (by omega) (by omega)).mono ?_; rintro e w' ⟨k, hk, HK, rfl, rfl⟩)
      go_ret
      refine ⟨ret_int (Cmp.mu_close x 255 _ k (by rw [if_neg (by omega)]) (by unfold Cmp.magMu; omega) ?_), rfl⟩
      rw [HK.out]

theorem A_close (x : Int) (s : Nat) (m : Int) (k : Nat) (hs : s = if x < 0 then 0 else 128) (hm : m = Cmp.magA x) (hk : k = Cmp.expo m.toNat) (h0 : k ≠ 0) :
    bits .xor .u8 (wrap64 ((s : Int) + 16 * (k : Int) + (m / 2 ^ (k + 3)).tmod 16) % 256) 85 = (Cmp.aCode x : Nat) := by
  rw [Cmp.a_close x s m k (k + 3) hs hm hk (by rw [if_neg h0]), Cmp.xor_u8 _ (Cmp.aRaw_lt x)]
  rfl
theorem A_close0 (x : Int) (s : Nat) (m : Int) (k : Nat) (hs : s = if x < 0 then 0 else 128) (hm : m = Cmp.magA x) (hk : k = Cmp.expo m.toNat) (h0 : k = 0) :
    bits .xor .u8 ((s : Int) + 16 * (k : Int) + m / 16 % 16) 85 = (Cmp.aCode x : Nat) := by
  rw [Cmp.a_close0 x s m k hs hm hk h0, Cmp.xor_u8 _ (Cmp.aRaw_lt x)]
  rfl
set_option maxRecDepth 100000 in
set_option maxHeartbeats 400000 in
theorem A_any (x : Int) (w : World) (h0 : -32768 ≤ x) (h1 : x ≤ 32767) :
    Calls Tryz.prog 189 #[.int .i16 x] w fun e w' => e = .returned (.int .u8 (Cmp.aCode x)) ∧ w = w' := by
  by_cases hx : x < 0
  · go_enter Tryz.func189, Tryz.ntmps189
    go_wp2_with (go_at_call 186; refine (exponent_k _ _ (by omega) (by omega)).mono ?_; rintro e w' ⟨k, hk, HK, rfl, rfl⟩)
    all_goals go_ret
    · have hk0 : k = 0 := by have h : ((k : Int) == 0) = true := by assumption
                             simpa using h
      refine ⟨ret_int ?_, rfl⟩
      have h := A_close0 x 0 (-x - 1) k (by rw [if_pos hx]) (by unfold Cmp.magA; rw [if_pos hx]; omega) HK.out hk0
      simpa using h
    · have hk0 : k ≠ 0 := by have h : ((k : Int) == 0) = false := by assumption
                             simpa using h
      refine ⟨ret_int ?_, rfl⟩
      have h := A_close x 0 (-x - 1) k (by rw [if_pos hx]) (by unfold Cmp.magA; rw [if_pos hx]; omega) HK.out hk0
      simpa using h
  · go_enter Tryz.func189, Tryz.ntmps189
    go_wp2_with (go_at_call 186; refine (exponent_k _ _ (by omega) (by omega)).mono ?_; rintro e w' ⟨k, hk, HK, rfl, rfl⟩)
    all_goals go_ret
    · have hk0 : k = 0 := by have h : ((k : Int) == 0) = true := by assumption
                             simpa using h
      refine ⟨ret_int ?_, rfl⟩
      exact A_close0 x 128 x k (by rw [if_neg (by omega)]) (by unfold Cmp.magA; rw [if_neg (by omega)]; omega) HK.out hk0
    · have hk0 : k ≠ 0 := by have h : ((k : Int) == 0) = false := by assumption
                             simpa using h
      refine ⟨ret_int ?_, rfl⟩
      exact A_close x 128 x k (by rw [if_neg (by omega)]) (by unfold Cmp.magA; rw [if_neg (by omega)]; omega) HK.out hk0
set_option maxRecDepth 100000 in
set_option maxHeartbeats 400000 in
theorem FromMu_any (b : Nat) (w : World) (h0 : b < 256) :
    Calls Tryz.prog 185 #[.int .u8 b] w fun e w' => e = .returned (.int .i16 (Cmp.fromMu b)) ∧ w = w' := by
  go_enter Tryz.func185, Tryz.ntmps185
  go_wp2
  all_goals go_ret
  all_goals
    refine ⟨ret_int ?_, rfl⟩
    revert b
    exact Cmp.byte_all (by decide +kernel)
set_option maxRecDepth 20000 in
set_option maxHeartbeats 400000 in
theorem FromA_any (b : Nat) (w : World) (h0 : b < 256) :
    Calls Tryz.prog 190 #[.int .u8 b] w fun e w' => e = .returned (.int .i16 (Cmp.fromA b)) ∧ w = w' := by
  have hb : 0 ≤ bits .xor .u8 (b : Int) 85 ∧ bits .xor .u8 (b : Int) 85 ≤ 255 := by
    rw [Cmp.xor_u8 b h0]
    have := Nat.xor_lt_two_pow (n := 8) h0 (show 85 < 2 ^ 8 by omega)
    omega
  obtain ⟨hb1, hb2⟩ := hb
  by_cases he : 0 < bits .xor .u8 (b : Int) 85 / 16 % 8
  all_goals
    go_enter Tryz.func190, Tryz.ntmps190
    go_wp2
    all_goals go_ret
    all_goals
      refine ⟨ret_int ?_, rfl⟩
      revert b
      exact Cmp.byte_all (by decide +kernel)
end Go.Proofs.YtahbecinkciahaaGreat
/- Layer 27: what the reference's functions on one sample or one code return: the same plain functions. -/
namespace Go.Proofs.YtahbecinkciahaaGreat
open Go.RowKit
set_option linter.unusedVariables false

theorem pow2_bd (k : Nat) (h : k ≤ 40) : 1 ≤ (2 : Int) ^ k ∧ (2 : Int) ^ k ≤ 1099511627776 := by
  have : ∀ k : Fin 41, 1 ≤ (2 : Int) ^ k.val ∧ (2 : Int) ^ k.val ≤ 1099511627776 := by decide +kernel
  exact this ⟨k, by omega⟩
theorem pow2_at (n : Int) (h0 : 0 ≤ n) (h1 : n ≤ 40) : 1 ≤ Cmp.pow2 n ∧ Cmp.pow2 n ≤ 1099511627776 := pow2_bd _ (by omega)
set_option maxRecDepth 100000 in
set_option maxHeartbeats 400000 in
theorem power_any (n : Int) (w : World) (h0 : 0 ≤ n) (h1 : n ≤ 40) :
    Calls Tryz.prog 160 #[.int .i64 n] w fun e w' => e = .returned (.int .i64 (Cmp.pow2 n)) ∧ w = w' := by
  go_enter Tryz.func160, Tryz.ntmps160
  go_wp2
  go_loop [3, 4] (fun p i => ∃ k : Nat, k ≤ n ∧ i = .int .i64 k ∧ p = .int .i64 (2 ^ k)) (fun _ i => (n - intOf i).toNat)
  case atStart => exact ⟨0, by omega, rfl, rfl⟩
  case round =>
    obtain ⟨k, hk, rfl, rfl⟩ := hrel
    obtain ⟨hp1, hp2⟩ := pow2_bd k (by omega)
    by_cases hlt : (k : Int) < n
    · go_wp2
      go_round
      case rel => exact ⟨k + 1, by omega, by go_num, by rw [Int.pow_succ, Int.mul_comm]⟩
      case measure => simp [intOf]; omega
    · obtain rfl : n = k := by omega
      go_wp2
      go_ret
      exact ⟨ret_int (by simp [Cmp.pow2]), rfl⟩
theorem expo_of (m : Int) (k : Nat) (h0 : 0 ≤ m) (h1 : m ≤ 32767) (hk : k ≤ 7) (hge : k = 0 ∨ 2 ^ (k + 7) ≤ m) (hlt : m < Cmp.pow2 (k + 8)) : k = Cmp.expo m.toNat := by
  obtain ⟨n, rfl⟩ := Int.eq_ofNat_of_zero_le h0
  rw [show Cmp.pow2 (k + 8) = 2 ^ (k + 8) from rfl] at hlt
  simp only [Int.toNat_natCast]
  have h7 : k = 0 ∨ k = 1 ∨ k = 2 ∨ k = 3 ∨ k = 4 ∨ k = 5 ∨ k = 6 ∨ k = 7 := by omega
  unfold Cmp.expo
  rcases h7 with rfl | rfl | rfl | rfl | rfl | rfl | rfl | rfl <;> simp at hge hlt <;> (repeat' split) <;> omega
theorem pow2_ge (m : Int) (k : Nat) (h : Cmp.pow2 (k + 8) ≤ m) : 2 ^ (k + 1 + 7) ≤ m := h
theorem k_le (m : Int) (k : Nat) (h1 : m ≤ 32767) (hk : k ≤ 7) (h : Cmp.pow2 (k + 8) ≤ m) : k ≤ 6 := by
  rcases Nat.lt_or_ge k 7 with h7 | h7
  · omega
  · obtain rfl : k = 7 := by omega
    have : (2 : Int) ^ 15 ≤ m := h
    omega

theorem A_close1 (x : Int) (s : Nat) (m : Int) (hs : s = if x < 0 then 0 else 128) (hm : m = Cmp.magA x) (h : m < 256) :
    bits .xor .u8 (m / 16 + s) 85 = (Cmp.aCode x : Nat) := by
  have hk : 0 = Cmp.expo m.toNat := by unfold Cmp.expo; rw [if_pos (by omega)]
  rw [← A_close0 x s m 0 hs hm hk rfl]
  congr 1
  have : 0 ≤ m := by rw [hm]; omega
  omega
theorem A_close2 (x : Int) (s : Nat) (m : Int) (k : Nat) (hs : s = if x < 0 then 0 else 128) (hm : m = Cmp.magA x) (hk : k = Cmp.expo m.toNat) (h0 : k ≠ 0) (h7 : k ≤ 7) :
    bits .xor .u8 (wrap64 (wrap64 (16 * (k : Int) + (m / Cmp.pow2 (k + 3)).tmod 16) + s) % 256) 85 = (Cmp.aCode x : Nat) := by
  rw [← A_close x s m k hs hm hk h0]
  rw [show m / Cmp.pow2 (k + 3) = m / 2 ^ (k + 3) from rfl, Cmp.q16 m (k + 3) (by rw [hm]; omega)]
  have h16 : m.toNat / 2 ^ (k + 3) % 16 < 16 := Nat.mod_lt _ (by omega)
  generalize m.toNat / 2 ^ (k + 3) % 16 = q at h16 ⊢
  have ht' : s ≤ 128 := by rw [hs]; split <;> omega
  rw [IntWalk.wrap64_in (16 * (k : Int) + q) ⟨by omega, by omega⟩]
  congr 3
  omega

set_option maxRecDepth 100000 in
set_option maxHeartbeats 400000 in
theorem rMu0 (x : Int) (w : World) (h0 : -32768 ≤ x) (h1 : x ≤ 32767) (hx : x < 0) (hy : 32635 < -x) :
    Calls Tryz.prog 132 #[.int .i16 x] w fun e w' => e = .returned (.int .u8 (Cmp.mu x)) ∧ w = w' := by
  go_enter Tryz.func132, Tryz.ntmps132
  go_wp2
  go_loop [5] (fun i => ∃ k : Nat, k ≤ 7 ∧ (k = 0 ∨ 2 ^ (k + 7) ≤ (32767 : Int)) ∧ i = .int .i64 k) (fun i => 8 - (intOf i).toNat)
  case atStart => exact ⟨0, by omega, .inl rfl, rfl⟩
  case round =>
    obtain ⟨k, hk, hge, rfl⟩ := hrel
    have H := Lib.hid hge
    clear hge
    by_cases ht : Cmp.pow2 (k + 8) ≤ (32767 : Int)
    · have h6 := k_le (32767 : Int) k (by omega) hk ht
      go_wp2_with (go_at_call 160; refine (power_any _ _ (by omega) (by omega)).mono ?_; rintro e w' ⟨rfl, rfl⟩)
      go_round
      case rel => exact ⟨k + 1, by omega, .inr (pow2_ge _ _ ht), by go_num⟩
      case measure => simp [intOf]; omega
    · have HE := Lib.hid (expo_of (32767 : Int) k (by omega) (by omega) hk H.out (by omega))
      have hp := pow2_at (k + 3) (by omega) (by omega)
      clear H
      obtain ⟨hp1, hp2⟩ := hp
      go_wp2_with (go_at_call 160; refine (power_any _ _ (by omega) (by omega)).mono ?_; rintro e w' ⟨rfl, rfl⟩)
      go_ret
      refine ⟨ret_int ?_, rfl⟩
      exact Cmp.mu_close x 127 (32767 : Int) k (by rw [if_pos (by omega)]) (by unfold Cmp.magMu; omega) HE.out

set_option maxRecDepth 100000 in
set_option maxHeartbeats 400000 in
theorem rMu1 (x : Int) (w : World) (h0 : -32768 ≤ x) (h1 : x ≤ 32767) (hx : x < 0) (hy : -x ≤ 32635) :
    Calls Tryz.prog 132 #[.int .i16 x] w fun e w' => e = .returned (.int .u8 (Cmp.mu x)) ∧ w = w' := by
  go_enter Tryz.func132, Tryz.ntmps132
  go_wp2
  go_loop [5] (fun i => ∃ k : Nat, k ≤ 7 ∧ (k = 0 ∨ 2 ^ (k + 7) ≤ (-x + 132)) ∧ i = .int .i64 k) (fun i => 8 - (intOf i).toNat)
  case atStart => exact ⟨0, by omega, .inl rfl, rfl⟩
  case round =>
    obtain ⟨k, hk, hge, rfl⟩ := hrel
    have H := Lib.hid hge
    clear hge
    by_cases ht : Cmp.pow2 (k + 8) ≤ (-x + 132)
    · have h6 := k_le (-x + 132) k (by omega) hk ht
      go_wp2_with (go_at_call 160; refine (power_any _ _ (by omega) (by omega)).mono ?_; rintro e w' ⟨rfl, rfl⟩)
      go_round
      case rel => exact ⟨k + 1, by omega, .inr (pow2_ge _ _ ht), by go_num⟩
      case measure => simp [intOf]; omega
    · have HE := Lib.hid (expo_of (-x + 132) k (by omega) (by omega) hk H.out (by omega))
      have hp := pow2_at (k + 3) (by omega) (by omega)
      clear H
      obtain ⟨hp1, hp2⟩ := hp
      go_wp2_with (go_at_call 160; refine (power_any _ _ (by omega) (by omega)).mono ?_; rintro e w' ⟨rfl, rfl⟩)
      go_ret
      refine ⟨ret_int ?_, rfl⟩
      exact Cmp.mu_close x 127 (-x + 132) k (by rw [if_pos (by omega)]) (by unfold Cmp.magMu; omega) HE.out

set_option maxRecDepth 100000 in
set_option maxHeartbeats 400000 in
theorem rMu2 (x : Int) (w : World) (h0 : -32768 ≤ x) (h1 : x ≤ 32767) (hx : 0 ≤ x) (hy : 32635 < x) :
    Calls Tryz.prog 132 #[.int .i16 x] w fun e w' => e = .returned (.int .u8 (Cmp.mu x)) ∧ w = w' := by
  go_enter Tryz.func132, Tryz.ntmps132
  go_wp2
  go_loop [5] (fun i => ∃ k : Nat, k ≤ 7 ∧ (k = 0 ∨ 2 ^ (k + 7) ≤ (32767 : Int)) ∧ i = .int .i64 k) (fun i => 8 - (intOf i).toNat)
  case atStart => exact ⟨0, by omega, .inl rfl, rfl⟩
  case round =>
    obtain ⟨k, hk, hge, rfl⟩ := hrel
    have H := Lib.hid hge
    clear hge
    by_cases ht : Cmp.pow2 (k + 8) ≤ (32767 : Int)
    · have h6 := k_le (32767 : Int) k (by omega) hk ht
      go_wp2_with (go_at_call 160; refine (power_any _ _ (by omega) (by omega)).mono ?_; rintro e w' ⟨rfl, rfl⟩)
      go_round
      case rel => exact ⟨k + 1, by omega, .inr (pow2_ge _ _ ht), by go_num⟩
      case measure => simp [intOf]; omega
    · have HE := Lib.hid (expo_of (32767 : Int) k (by omega) (by omega) hk H.out (by omega))
      have hp := pow2_at (k + 3) (by omega) (by omega)
      clear H
      obtain ⟨hp1, hp2⟩ := hp
      go_wp2_with (go_at_call 160; refine (power_any _ _ (by omega) (by omega)).mono ?_; rintro e w' ⟨rfl, rfl⟩)
      go_ret
      refine ⟨ret_int ?_, rfl⟩
      exact Cmp.mu_close x 255 (32767 : Int) k (by rw [if_neg (by omega)]) (by unfold Cmp.magMu; omega) HE.out

set_option maxRecDepth 100000 in
set_option maxHeartbeats 400000 in
theorem rMu3 (x : Int) (w : World) (h0 : -32768 ≤ x) (h1 : x ≤ 32767) (hx : 0 ≤ x) (hy : x ≤ 32635) :
    Calls Tryz.prog 132 #[.int .i16 x] w fun e w' => e = .returned (.int .u8 (Cmp.mu x)) ∧ w = w' := by
  go_enter Tryz.func132, Tryz.ntmps132
  go_wp2
  go_loop [5] (fun i => ∃ k : Nat, k ≤ 7 ∧ (k = 0 ∨ 2 ^ (k + 7) ≤ (x + 132)) ∧ i = .int .i64 k) (fun i => 8 - (intOf i).toNat)
  case atStart => exact ⟨0, by omega, .inl rfl, rfl⟩
  case round =>
    obtain ⟨k, hk, hge, rfl⟩ := hrel
    have H := Lib.hid hge
    clear hge
    by_cases ht : Cmp.pow2 (k + 8) ≤ (x + 132)
    · have h6 := k_le (x + 132) k (by omega) hk ht
      go_wp2_with (go_at_call 160; refine (power_any _ _ (by omega) (by omega)).mono ?_; rintro e w' ⟨rfl, rfl⟩)
      go_round
      case rel => exact ⟨k + 1, by omega, .inr (pow2_ge _ _ ht), by go_num⟩
      case measure => simp [intOf]; omega
    · have HE := Lib.hid (expo_of (x + 132) k (by omega) (by omega) hk H.out (by omega))
      have hp := pow2_at (k + 3) (by omega) (by omega)
      clear H
      obtain ⟨hp1, hp2⟩ := hp
      go_wp2_with (go_at_call 160; refine (power_any _ _ (by omega) (by omega)).mono ?_; rintro e w' ⟨rfl, rfl⟩)
      go_ret
      refine ⟨ret_int ?_, rfl⟩
      exact Cmp.mu_close x 255 (x + 132) k (by rw [if_neg (by omega)]) (by unfold Cmp.magMu; omega) HE.out

theorem rMu_any (x : Int) (w : World) (h0 : -32768 ≤ x) (h1 : x ≤ 32767) :
    Calls Tryz.prog 132 #[.int .i16 x] w fun e w' => e = .returned (.int .u8 (Cmp.mu x)) ∧ w = w' := by
  by_cases hx : x < 0
  · by_cases hy : 32635 < -x
    · exact rMu0 x w h0 h1 hx hy
    · exact rMu1 x w h0 h1 hx (by omega)
  · by_cases hy : 32635 < x
    · exact rMu2 x w h0 h1 (by omega) hy
    · exact rMu3 x w h0 h1 (by omega) (by omega)

set_option maxRecDepth 100000 in
set_option maxHeartbeats 400000 in
theorem rAs0 (x : Int) (w : World) (h0 : -32768 ≤ x) (h1 : x ≤ 32767) (hx : x < 0) (hy : (-x - 1) < 256) :
    Calls Tryz.prog 133 #[.int .i16 x] w fun e w' => e = .returned (.int .u8 (Cmp.aCode x)) ∧ w = w' := by
  go_enter Tryz.func133, Tryz.ntmps133
  go_wp2
  go_ret
  refine ⟨ret_int ?_, rfl⟩
  refine Eq.trans ?_ (A_close1 x 0 (-x - 1) (by rw [if_pos (by omega)]) (by unfold Cmp.magA; rw [if_pos (by omega)]; omega) hy)
  first | rfl | (congr 1; omega)
set_option maxRecDepth 100000 in
set_option maxHeartbeats 400000 in
theorem rAb0 (x : Int) (w : World) (h0 : -32768 ≤ x) (h1 : x ≤ 32767) (hx : x < 0) (hy : 256 ≤ (-x - 1)) :
    Calls Tryz.prog 133 #[.int .i16 x] w fun e w' => e = .returned (.int .u8 (Cmp.aCode x)) ∧ w = w' := by
  go_enter Tryz.func133, Tryz.ntmps133
  go_wp2
  go_loop [6] (fun i => ∃ k : Nat, 1 ≤ k ∧ k ≤ 7 ∧ (k = 0 ∨ 2 ^ (k + 7) ≤ (-x - 1)) ∧ i = .int .i64 k) (fun i => 8 - (intOf i).toNat)
  case atStart => exact ⟨1, by omega, by omega, .inr (by omega), rfl⟩
  case round =>
    obtain ⟨k, hk1, hk, hge, rfl⟩ := hrel
    have H := Lib.hid hge
    clear hge
    by_cases ht : Cmp.pow2 (k + 8) ≤ (-x - 1)
    · have h6 := k_le (-x - 1) k (by omega) hk ht
      go_wp2_with (go_at_call 160; refine (power_any _ _ (by omega) (by omega)).mono ?_; rintro e w' ⟨rfl, rfl⟩)
      go_round
      case rel => exact ⟨k + 1, by omega, by omega, .inr (pow2_ge _ _ ht), by go_num⟩
      case measure => simp [intOf]; omega
    · have HE := Lib.hid (expo_of (-x - 1) k (by omega) (by omega) hk H.out (by omega))
      have hp := pow2_at (k + 3) (by omega) (by omega)
      clear H
      obtain ⟨hp1, hp2⟩ := hp
      go_wp2_with (go_at_call 160; refine (power_any _ _ (by omega) (by omega)).mono ?_; rintro e w' ⟨rfl, rfl⟩)
      go_ret
      refine ⟨ret_int ?_, rfl⟩
      have h := A_close2 x 0 (-x - 1) k (by rw [if_pos (by omega)]) (by unfold Cmp.magA; rw [if_pos (by omega)]; omega) HE.out (by omega) hk
      simpa using h

set_option maxRecDepth 100000 in
set_option maxHeartbeats 400000 in
theorem rAs1 (x : Int) (w : World) (h0 : -32768 ≤ x) (h1 : x ≤ 32767) (hx : 0 ≤ x) (hy : x < 256) :
    Calls Tryz.prog 133 #[.int .i16 x] w fun e w' => e = .returned (.int .u8 (Cmp.aCode x)) ∧ w = w' := by
  go_enter Tryz.func133, Tryz.ntmps133
  go_wp2
  go_ret
  refine ⟨ret_int ?_, rfl⟩
  refine Eq.trans ?_ (A_close1 x 128 x (by rw [if_neg (by omega)]) (by unfold Cmp.magA; rw [if_neg (by omega)]; omega) hy)
  first | rfl | (congr 1; omega)
set_option maxRecDepth 100000 in
set_option maxHeartbeats 400000 in
theorem rAb1 (x : Int) (w : World) (h0 : -32768 ≤ x) (h1 : x ≤ 32767) (hx : 0 ≤ x) (hy : 256 ≤ x) :
    Calls Tryz.prog 133 #[.int .i16 x] w fun e w' => e = .returned (.int .u8 (Cmp.aCode x)) ∧ w = w' := by
  go_enter Tryz.func133, Tryz.ntmps133
  go_wp2
  go_loop [6] (fun i => ∃ k : Nat, 1 ≤ k ∧ k ≤ 7 ∧ (k = 0 ∨ 2 ^ (k + 7) ≤ x) ∧ i = .int .i64 k) (fun i => 8 - (intOf i).toNat)
  case atStart => exact ⟨1, by omega, by omega, .inr (by omega), rfl⟩
  case round =>
    obtain ⟨k, hk1, hk, hge, rfl⟩ := hrel
    have H := Lib.hid hge
    clear hge
    by_cases ht : Cmp.pow2 (k + 8) ≤ x
    · have h6 := k_le x k (by omega) hk ht
      go_wp2_with (go_at_call 160; refine (power_any _ _ (by omega) (by omega)).mono ?_; rintro e w' ⟨rfl, rfl⟩)
      go_round
      case rel => exact ⟨k + 1, by omega, by omega, .inr (pow2_ge _ _ ht), by go_num⟩
      case measure => simp [intOf]; omega
    · have HE := Lib.hid (expo_of x k (by omega) (by omega) hk H.out (by omega))
      have hp := pow2_at (k + 3) (by omega) (by omega)
      clear H
      obtain ⟨hp1, hp2⟩ := hp
      go_wp2_with (go_at_call 160; refine (power_any _ _ (by omega) (by omega)).mono ?_; rintro e w' ⟨rfl, rfl⟩)
      go_ret
      refine ⟨ret_int ?_, rfl⟩
      have h := A_close2 x 128 x k (by rw [if_neg (by omega)]) (by unfold Cmp.magA; rw [if_neg (by omega)]; omega) HE.out (by omega) hk
      simpa using h

theorem rA_any (x : Int) (w : World) (h0 : -32768 ≤ x) (h1 : x ≤ 32767) :
    Calls Tryz.prog 133 #[.int .i16 x] w fun e w' => e = .returned (.int .u8 (Cmp.aCode x)) ∧ w = w' := by
  by_cases hx : x < 0
  · by_cases hy : -x - 1 < 256
    · exact rAs0 x w h0 h1 hx hy
    · exact rAb0 x w h0 h1 hx (by omega)
  · by_cases hy : x < 256
    · exact rAs1 x w h0 h1 (by omega) hy
    · exact rAb1 x w h0 h1 (by omega) (by omega)
set_option maxRecDepth 20000 in
set_option maxHeartbeats 400000 in
theorem rFromMu_any (b : Nat) (w : World) (h0 : b < 256) :
    Calls Tryz.prog 134 #[.int .u8 b] w fun e w' => e = .returned (.int .i16 (Cmp.fromMu b)) ∧ w = w' := by
  go_enter Tryz.func134, Tryz.ntmps134
  go_wp2_with (go_at_call 160; refine (power_any _ _ (by omega) (by omega)).mono ?_; rintro e w' ⟨rfl, rfl⟩)
  all_goals go_ret
  all_goals
    refine ⟨ret_int ?_, rfl⟩
    revert b
    exact Cmp.byte_all (by decide +kernel)
set_option maxRecDepth 20000 in
set_option maxHeartbeats 400000 in
theorem rFromA_any (b : Nat) (w : World) (h0 : b < 256) :
    Calls Tryz.prog 135 #[.int .u8 b] w fun e w' => e = .returned (.int .i16 (Cmp.fromA b)) ∧ w = w' := by
  have hb : 0 ≤ bits .xor .u8 (b : Int) 85 ∧ bits .xor .u8 (b : Int) 85 ≤ 255 := by
    rw [Cmp.xor_u8 b h0]
    have := Nat.xor_lt_two_pow (n := 8) h0 (show 85 < 2 ^ 8 by omega)
    omega
  obtain ⟨hb1, hb2⟩ := hb
  by_cases he : 0 < bits .xor .u8 (b : Int) 85 / 16 % 8
  all_goals
    go_enter Tryz.func135, Tryz.ntmps135
    go_wp2_with (go_at_call 160; refine (power_any _ _ (by omega) (by omega)).mono ?_; rintro e w' ⟨rfl, rfl⟩)
    all_goals go_ret
    all_goals
      refine ⟨ret_int ?_, rfl⟩
      revert b
      exact Cmp.byte_all (by decide +kernel)
end Go.Proofs.YtahbecinkciahaaGreat
/- Layer 27: what find, the methods of the two laws, Pack and Unpack return, for the program. -/
namespace Go.Proofs.YtahbecinkciahaaGreat
open Go.RowKit
set_option linter.unusedVariables false

theorem find_mu (w : World) :
    Calls Tryz.prog 161 #[.int .u8 1] w fun e w' => e = .returned (.tuple #[.iface 222 (.agg #[]), .bool true]) ∧ w = w' := by
  go_enter Tryz.func161, Tryz.ntmps161
  go_wp2
  go_ret2
  exact ⟨rfl, rfl⟩
theorem find_a (w : World) :
    Calls Tryz.prog 161 #[.int .u8 2] w fun e w' => e = .returned (.tuple #[.iface 223 (.agg #[]), .bool true]) ∧ w = w' := by
  go_enter Tryz.func161, Tryz.ntmps161
  go_wp2
  go_ret2
  exact ⟨rfl, rfl⟩
theorem cmp_u8 : (Tryz.prog.info? 5).map (fun i => (i.zero, i.size, i.bytes)) = some (some (.int .u8 0), 1, 1) := by kernel_rfl
theorem cmp_i16 : (Tryz.prog.info? 93).map (fun i => (i.zero, i.size, i.bytes)) = some (some (.int .i16 0), 1, 2) := by kernel_rfl

theorem mucode (x : Int) (w : World) (h0 : -32768 ≤ x) (h1 : x ≤ 32767) :
    Calls Tryz.prog 182 #[.agg #[], .int .i16 x] w fun e w' => e = .returned (.int .u8 (Cmp.muZ x)) ∧ w.alloc (.cells #[] 222) = w' := by
  skip
  go_enter Tryz.func182, Tryz.ntmps182
  go_wp2_with (go_at_call 184; refine (Mu_any _ _ (by omega) (by omega)).mono ?_; rintro e w' ⟨rfl, rfl⟩)
  go_ret
  exact ⟨rfl, rfl⟩
theorem nil_mucode (w : World) : (nilAhead 340 222 (.agg #[]) "dialtone/compand.code").run Tryz.prog w = .ok (some false) w := by kernel_rfl
theorem met_mucode (w : World) : (method 340 222 (.agg #[]) "dialtone/compand.code").run Tryz.prog w = .ok (182, .agg #[]) w := by kernel_rfl
theorem musample (x : Int) (w : World) (h0 : 0 ≤ x) (h1 : x ≤ 255) :
    Calls Tryz.prog 183 #[.agg #[], .int .u8 x] w fun e w' => e = .returned (.int .i16 (Cmp.fromMuZ x)) ∧ w.alloc (.cells #[] 222) = w' := by
  obtain ⟨n, rfl⟩ := Int.eq_ofNat_of_zero_le h0
  go_enter Tryz.func183, Tryz.ntmps183
  go_wp2_with (go_at_call 185; refine (FromMu_any _ _ (by omega)).mono ?_; rintro e w' ⟨rfl, rfl⟩)
  go_ret
  exact ⟨rfl, rfl⟩
theorem nil_musample (w : World) : (nilAhead 340 222 (.agg #[]) "dialtone/compand.sample").run Tryz.prog w = .ok (some false) w := by kernel_rfl
theorem met_musample (w : World) : (method 340 222 (.agg #[]) "dialtone/compand.sample").run Tryz.prog w = .ok (183, .agg #[]) w := by kernel_rfl
theorem acode (x : Int) (w : World) (h0 : -32768 ≤ x) (h1 : x ≤ 32767) :
    Calls Tryz.prog 187 #[.agg #[], .int .i16 x] w fun e w' => e = .returned (.int .u8 (Cmp.aZ x)) ∧ w.alloc (.cells #[] 223) = w' := by
  skip
  go_enter Tryz.func187, Tryz.ntmps187
  go_wp2_with (go_at_call 189; refine (A_any _ _ (by omega) (by omega)).mono ?_; rintro e w' ⟨rfl, rfl⟩)
  go_ret
  exact ⟨rfl, rfl⟩
theorem nil_acode (w : World) : (nilAhead 340 223 (.agg #[]) "dialtone/compand.code").run Tryz.prog w = .ok (some false) w := by kernel_rfl
theorem met_acode (w : World) : (method 340 223 (.agg #[]) "dialtone/compand.code").run Tryz.prog w = .ok (187, .agg #[]) w := by kernel_rfl
theorem asample (x : Int) (w : World) (h0 : 0 ≤ x) (h1 : x ≤ 255) :
    Calls Tryz.prog 188 #[.agg #[], .int .u8 x] w fun e w' => e = .returned (.int .i16 (Cmp.fromAZ x)) ∧ w.alloc (.cells #[] 223) = w' := by
  obtain ⟨n, rfl⟩ := Int.eq_ofNat_of_zero_le h0
  go_enter Tryz.func188, Tryz.ntmps188
  go_wp2_with (go_at_call 190; refine (FromA_any _ _ (by omega)).mono ?_; rintro e w' ⟨rfl, rfl⟩)
  go_ret
  exact ⟨rfl, rfl⟩
theorem nil_asample (w : World) : (nilAhead 340 223 (.agg #[]) "dialtone/compand.sample").run Tryz.prog w = .ok (some false) w := by kernel_rfl
theorem met_asample (w : World) : (method 340 223 (.agg #[]) "dialtone/compand.sample").run Tryz.prog w = .ok (188, .agg #[]) w := by kernel_rfl
end Go.Proofs.YtahbecinkciahaaGreat
/- Layer 27: what the reference's Pack, Unpack and Same return, and Pack and Unpack where they refuse. -/
namespace Go.Proofs.YtahbecinkciahaaGreat
open Go.RowKit
set_option linter.unusedVariables false
theorem rPack_no (n : Int) (A : Option Addr) (len cap : Nat) (w : World) (h1 : (n != 1) = true) (h2 : (n != 2) = true) :
    Calls Tryz.prog 87 #[.int .u8 n, .slice A len cap] w fun e w' => e = .returned (.tuple #[.slice none 0 0, .int .u8 2]) ∧ w = w' := by
  go_enter Tryz.func87, Tryz.ntmps87
  go_wp2
  go_ret2
  exact ⟨rfl, rfl⟩
theorem rcPack_long (n : Int) (A : Option Addr) (len cap : Nat) (w : World) (hn : n = 1 ∨ n = 2) (h : 8000 < (len : Int)) :
    Calls Tryz.prog 87 #[.int .u8 n, .slice A len cap] w fun e w' => e = .returned (.tuple #[.slice none 0 0, .int .u8 4]) ∧ w = w' := by
  rcases hn with rfl | rfl
  all_goals
    go_enter Tryz.func87, Tryz.ntmps87
    go_wp2
    go_ret2
    exact ⟨rfl, rfl⟩
theorem rUnpack_no (n : Int) (A : Option Addr) (len cap : Nat) (w : World) (h1 : (n != 1) = true) (h2 : (n != 2) = true) :
    Calls Tryz.prog 90 #[.int .u8 n, .slice A len cap] w fun e w' => e = .returned (.tuple #[.slice none 0 0, .int .u8 2]) ∧ w = w' := by
  go_enter Tryz.func90, Tryz.ntmps90
  go_wp2
  go_ret2
  exact ⟨rfl, rfl⟩
theorem rUnpack_long (n : Int) (A : Option Addr) (len cap : Nat) (w : World) (hn : n = 1 ∨ n = 2) (h : 8000 < (len : Int)) :
    Calls Tryz.prog 90 #[.int .u8 n, .slice A len cap] w fun e w' => e = .returned (.tuple #[.slice none 0 0, .int .u8 4]) ∧ w = w' := by
  rcases hn with rfl | rfl
  all_goals
    go_enter Tryz.func90, Tryz.ntmps90
    go_wp2
    go_ret2
    exact ⟨rfl, rfl⟩
theorem take_map_succ (f : Int → Int) (zs : List Int) (k : Nat) (h : k < zs.length) : (zs.take (k + 1)).map f = (zs.take k).map f ++ [f (zs.getD k 0)] := by
  rw [List.take_succ_eq_append_getElem h, List.map_append, List.getD_eq_getElem?_getD, List.getElem?_eq_getElem h]
  rfl

set_option maxRecDepth 100000 in
set_option maxHeartbeats 400000 in
theorem rPack_mu (A : Option Addr) (zs : List Int) (cap : Nat) (w : World) (hA : IntsAt w w.heap.size .i16 A zs) (hz : Within (-32768) 32767 zs) (h8 : zs.length ≤ 8000) :
    Calls Tryz.prog 87 #[.int .u8 1, .slice A zs.length cap] w fun e w' => ∃ (A' : Option Addr) (c' : Nat), e = .returned (.tuple #[.slice A' zs.length c', .int .u8 0]) ∧
      IntsAt w' w'.heap.size .u8 A' (zs.map Cmp.muZ) ∧ Below w.heap.size w w' := by
  go_enter Tryz.func87, Tryz.ntmps87
  go_wp2
  go_loopw [6, 7] (fun v i wr => ∃ (k : Nat) (A' : Option Addr) (c' : Nat) (xs : List Value), k ≤ zs.length ∧ i = .int .i64 k ∧ v = .slice A' k c' ∧ Owns wr w.heap.size 5 1 A' k c' xs ∧ Hid (xs = ((zs.take k).map Cmp.muZ).map (Value.int .u8)) ∧ Below w.heap.size w wr)
    (fun _ i _ => zs.length - (intOf i).toNat)
  case atStart => exact ⟨0, none, 0, [], Nat.zero_le _, rfl, rfl, Owns.nil, rfl, Below.refl _ _⟩
  case round =>
    obtain ⟨k, A', c', xs, hk, rfl, rfl, hown, HX, hb⟩ := hrel
    by_cases hlt : k < zs.length
    · obtain ⟨b, off, rfl, hbB, hcell⟩ := hA (by omega)
      have hzk := hz.at hlt
      have hck : wr.cell? ⟨b, off + k, none⟩ = some (.int .i16 (zs.getD k 0)) := (hb.cell (p := ⟨b, off + k, none⟩) hbB).trans (hcell k hlt)
      have hbs := hb.size
      clear hcell
      generalize hzz : zs.getD k 0 = z at hck hzk
      have HZ := Lib.hid hzz
      clear hzz
      obtain ⟨hz1', hz2'⟩ := hzk
      have hi0 : (0 : Int) ≤ (k : Int) := by omega
      have hi1 : (k : Int) < (zs.length : Int) := by omega
      have HO := Lib.hid hown
      clear hown
      go_wp2_with (first
        | (go_at_call 132; refine (rMu_any _ _ (by omega) (by omega)).mono ?_; rintro e w' ⟨rfl, rfl⟩)
        | (at_builtin; refine wpList_append_one rfl _ _ 22 rfl w.heap.size 5 1 1 (.int .u8 0) Tryz.underlying22 cmp_u8 rfl (by decide) A' k c' xs rfl HO.out [.int .u8 (Cmp.muZ z)] rfl (by simp [Value.oneCell']) rfl (by unfold maxLen; omega) (by omega) (by omega) ?_; intro A2 c2 w2 hown2 hg2 hlt2))
      go_roundw
      case rel =>
        refine ⟨k + 1, A2, c2, _, by omega, by go_num, rfl, hown2, ?_, below_own hb HO.out hg2 (by omega) (Nat.le_refl _)⟩
        rw [HX.out, take_map_succ _ _ _ hlt, HZ.out, List.map_append]
        rfl
      case measure => simp [intOf]; omega
    · obtain rfl : k = zs.length := by omega
      go_wp2
      go_ret2
      refine ⟨A', c', rfl, ?_, hb⟩
      rw [HX.out, List.take_length] at hown
      exact hown.ints

theorem rFromMu_z (x : Int) (w : World) (h0 : 0 ≤ x) (h1 : x ≤ 255) :
    Calls Tryz.prog 134 #[.int .u8 x] w fun e w' => e = .returned (.int .i16 (Cmp.fromMuZ x)) ∧ w = w' := by
  obtain ⟨n, rfl⟩ := Int.eq_ofNat_of_zero_le h0
  exact rFromMu_any n w (by omega)
set_option maxRecDepth 100000 in
set_option maxHeartbeats 400000 in
theorem rUnpack_mu (A : Option Addr) (zs : List Int) (cap : Nat) (w : World) (hA : IntsAt w w.heap.size .u8 A zs) (hz : Within (0) 255 zs) (h8 : zs.length ≤ 8000) :
    Calls Tryz.prog 90 #[.int .u8 1, .slice A zs.length cap] w fun e w' => ∃ (A' : Option Addr) (c' : Nat), e = .returned (.tuple #[.slice A' zs.length c', .int .u8 0]) ∧
      IntsAt w' w'.heap.size .i16 A' (zs.map Cmp.fromMuZ) ∧ Below w.heap.size w w' := by
  go_enter Tryz.func90, Tryz.ntmps90
  go_wp2
  go_loopw [6, 7] (fun v i wr => ∃ (k : Nat) (A' : Option Addr) (c' : Nat) (xs : List Value), k ≤ zs.length ∧ i = .int .i64 k ∧ v = .slice A' k c' ∧ Owns wr w.heap.size 93 1 A' k c' xs ∧ Hid (xs = ((zs.take k).map Cmp.fromMuZ).map (Value.int .i16)) ∧ Below w.heap.size w wr)
    (fun _ i _ => zs.length - (intOf i).toNat)
  case atStart => exact ⟨0, none, 0, [], Nat.zero_le _, rfl, rfl, Owns.nil, rfl, Below.refl _ _⟩
  case round =>
    obtain ⟨k, A', c', xs, hk, rfl, rfl, hown, HX, hb⟩ := hrel
    by_cases hlt : k < zs.length
    · obtain ⟨b, off, rfl, hbB, hcell⟩ := hA (by omega)
      have hzk := hz.at hlt
      have hck : wr.cell? ⟨b, off + k, none⟩ = some (.int .u8 (zs.getD k 0)) := (hb.cell (p := ⟨b, off + k, none⟩) hbB).trans (hcell k hlt)
      have hbs := hb.size
      clear hcell
      generalize hzz : zs.getD k 0 = z at hck hzk
      have HZ := Lib.hid hzz
      clear hzz
      obtain ⟨hz1', hz2'⟩ := hzk
      have hi0 : (0 : Int) ≤ (k : Int) := by omega
      have hi1 : (k : Int) < (zs.length : Int) := by omega
      have HO := Lib.hid hown
      clear hown
      go_wp2_with (first
        | (go_at_call 134; refine (rFromMu_z _ _ (by omega) (by omega)).mono ?_; rintro e w' ⟨rfl, rfl⟩)
        | (at_builtin; refine wpList_append_one rfl _ _ 66 rfl w.heap.size 93 1 2 (.int .i16 0) Tryz.underlying66 cmp_i16 rfl (by decide) A' k c' xs rfl HO.out [.int .i16 (Cmp.fromMuZ z)] rfl (by simp [Value.oneCell']) rfl (by unfold maxLen; omega) (by omega) (by omega) ?_; intro A2 c2 w2 hown2 hg2 hlt2))
      go_roundw
      case rel =>
        refine ⟨k + 1, A2, c2, _, by omega, by go_num, rfl, hown2, ?_, below_own hb HO.out hg2 (by omega) (Nat.le_refl _)⟩
        rw [HX.out, take_map_succ _ _ _ hlt, HZ.out, List.map_append]
        rfl
      case measure => simp [intOf]; omega
    · obtain rfl : k = zs.length := by omega
      go_wp2
      go_ret2
      refine ⟨A', c', rfl, ?_, hb⟩
      rw [HX.out, List.take_length] at hown
      exact hown.ints

set_option maxRecDepth 100000 in
set_option maxHeartbeats 400000 in
theorem rPack_a (A : Option Addr) (zs : List Int) (cap : Nat) (w : World) (hA : IntsAt w w.heap.size .i16 A zs) (hz : Within (-32768) 32767 zs) (h8 : zs.length ≤ 8000) :
    Calls Tryz.prog 87 #[.int .u8 2, .slice A zs.length cap] w fun e w' => ∃ (A' : Option Addr) (c' : Nat), e = .returned (.tuple #[.slice A' zs.length c', .int .u8 0]) ∧
      IntsAt w' w'.heap.size .u8 A' (zs.map Cmp.aZ) ∧ Below w.heap.size w w' := by
  go_enter Tryz.func87, Tryz.ntmps87
  go_wp2
  go_loopw [6, 7] (fun v i wr => ∃ (k : Nat) (A' : Option Addr) (c' : Nat) (xs : List Value), k ≤ zs.length ∧ i = .int .i64 k ∧ v = .slice A' k c' ∧ Owns wr w.heap.size 5 1 A' k c' xs ∧ Hid (xs = ((zs.take k).map Cmp.aZ).map (Value.int .u8)) ∧ Below w.heap.size w wr)
    (fun _ i _ => zs.length - (intOf i).toNat)
  case atStart => exact ⟨0, none, 0, [], Nat.zero_le _, rfl, rfl, Owns.nil, rfl, Below.refl _ _⟩
  case round =>
    obtain ⟨k, A', c', xs, hk, rfl, rfl, hown, HX, hb⟩ := hrel
    by_cases hlt : k < zs.length
    · obtain ⟨b, off, rfl, hbB, hcell⟩ := hA (by omega)
      have hzk := hz.at hlt
      have hck : wr.cell? ⟨b, off + k, none⟩ = some (.int .i16 (zs.getD k 0)) := (hb.cell (p := ⟨b, off + k, none⟩) hbB).trans (hcell k hlt)
      have hbs := hb.size
      clear hcell
      generalize hzz : zs.getD k 0 = z at hck hzk
      have HZ := Lib.hid hzz
      clear hzz
      obtain ⟨hz1', hz2'⟩ := hzk
      have hi0 : (0 : Int) ≤ (k : Int) := by omega
      have hi1 : (k : Int) < (zs.length : Int) := by omega
      have HO := Lib.hid hown
      clear hown
      go_wp2_with (first
        | (go_at_call 133; refine (rA_any _ _ (by omega) (by omega)).mono ?_; rintro e w' ⟨rfl, rfl⟩)
        | (at_builtin; refine wpList_append_one rfl _ _ 22 rfl w.heap.size 5 1 1 (.int .u8 0) Tryz.underlying22 cmp_u8 rfl (by decide) A' k c' xs rfl HO.out [.int .u8 (Cmp.aZ z)] rfl (by simp [Value.oneCell']) rfl (by unfold maxLen; omega) (by omega) (by omega) ?_; intro A2 c2 w2 hown2 hg2 hlt2))
      go_roundw
      case rel =>
        refine ⟨k + 1, A2, c2, _, by omega, by go_num, rfl, hown2, ?_, below_own hb HO.out hg2 (by omega) (Nat.le_refl _)⟩
        rw [HX.out, take_map_succ _ _ _ hlt, HZ.out, List.map_append]
        rfl
      case measure => simp [intOf]; omega
    · obtain rfl : k = zs.length := by omega
      go_wp2
      go_ret2
      refine ⟨A', c', rfl, ?_, hb⟩
      rw [HX.out, List.take_length] at hown
      exact hown.ints

theorem rFromA_z (x : Int) (w : World) (h0 : 0 ≤ x) (h1 : x ≤ 255) :
    Calls Tryz.prog 135 #[.int .u8 x] w fun e w' => e = .returned (.int .i16 (Cmp.fromAZ x)) ∧ w = w' := by
  obtain ⟨n, rfl⟩ := Int.eq_ofNat_of_zero_le h0
  exact rFromA_any n w (by omega)
set_option maxRecDepth 100000 in
set_option maxHeartbeats 400000 in
theorem rUnpack_a (A : Option Addr) (zs : List Int) (cap : Nat) (w : World) (hA : IntsAt w w.heap.size .u8 A zs) (hz : Within (0) 255 zs) (h8 : zs.length ≤ 8000) :
    Calls Tryz.prog 90 #[.int .u8 2, .slice A zs.length cap] w fun e w' => ∃ (A' : Option Addr) (c' : Nat), e = .returned (.tuple #[.slice A' zs.length c', .int .u8 0]) ∧
      IntsAt w' w'.heap.size .i16 A' (zs.map Cmp.fromAZ) ∧ Below w.heap.size w w' := by
  go_enter Tryz.func90, Tryz.ntmps90
  go_wp2
  go_loopw [6, 7] (fun v i wr => ∃ (k : Nat) (A' : Option Addr) (c' : Nat) (xs : List Value), k ≤ zs.length ∧ i = .int .i64 k ∧ v = .slice A' k c' ∧ Owns wr w.heap.size 93 1 A' k c' xs ∧ Hid (xs = ((zs.take k).map Cmp.fromAZ).map (Value.int .i16)) ∧ Below w.heap.size w wr)
    (fun _ i _ => zs.length - (intOf i).toNat)
  case atStart => exact ⟨0, none, 0, [], Nat.zero_le _, rfl, rfl, Owns.nil, rfl, Below.refl _ _⟩
  case round =>
    obtain ⟨k, A', c', xs, hk, rfl, rfl, hown, HX, hb⟩ := hrel
    by_cases hlt : k < zs.length
    · obtain ⟨b, off, rfl, hbB, hcell⟩ := hA (by omega)
      have hzk := hz.at hlt
      have hck : wr.cell? ⟨b, off + k, none⟩ = some (.int .u8 (zs.getD k 0)) := (hb.cell (p := ⟨b, off + k, none⟩) hbB).trans (hcell k hlt)
      have hbs := hb.size
      clear hcell
      generalize hzz : zs.getD k 0 = z at hck hzk
      have HZ := Lib.hid hzz
      clear hzz
      obtain ⟨hz1', hz2'⟩ := hzk
      have hi0 : (0 : Int) ≤ (k : Int) := by omega
      have hi1 : (k : Int) < (zs.length : Int) := by omega
      have HO := Lib.hid hown
      clear hown
      go_wp2_with (first
        | (go_at_call 135; refine (rFromA_z _ _ (by omega) (by omega)).mono ?_; rintro e w' ⟨rfl, rfl⟩)
        | (at_builtin; refine wpList_append_one rfl _ _ 66 rfl w.heap.size 93 1 2 (.int .i16 0) Tryz.underlying66 cmp_i16 rfl (by decide) A' k c' xs rfl HO.out [.int .i16 (Cmp.fromAZ z)] rfl (by simp [Value.oneCell']) rfl (by unfold maxLen; omega) (by omega) (by omega) ?_; intro A2 c2 w2 hown2 hg2 hlt2))
      go_roundw
      case rel =>
        refine ⟨k + 1, A2, c2, _, by omega, by go_num, rfl, hown2, ?_, below_own hb HO.out hg2 (by omega) (Nat.le_refl _)⟩
        rw [HX.out, take_map_succ _ _ _ hlt, HZ.out, List.map_append]
        rfl
      case measure => simp [intOf]; omega
    · obtain rfl : k = zs.length := by omega
      go_wp2
      go_ret2
      refine ⟨A', c', rfl, ?_, hb⟩
      rw [HX.out, List.take_length] at hown
      exact hown.ints
end Go.Proofs.YtahbecinkciahaaGreat
