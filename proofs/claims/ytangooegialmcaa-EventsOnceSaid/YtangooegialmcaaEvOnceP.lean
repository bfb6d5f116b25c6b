/- Layer 29, EventsOnce: the packets of some keys, in plain words. -/
import Derived.Test.YtangooegialmcaaEvTypes2
import Derived.Test.YtangooegialmcaaEvFrames
namespace Go.Proofs.Ytangooegialmcaa.eventsOnce
open Go.RowKit
set_option linter.unusedVariables false
set_option linter.unusedSimpArgs false
structure Sent where
  key : Int
  time : Int
  mark : Bool
  code : Int
  fin : Bool
  vol : Int
  dur : Int
def Sent.row (p : Sent) : List Value := [.int .i64 p.key, .int .u32 p.time, .bool p.mark, .int .u8 p.code, .bool p.fin, .int .u8 p.vol, .int .u16 p.dur]
def sk (l : List TStroke) (i : Nat) : TStroke := l.getD i ⟨0, 0, 0⟩
/-- how far the time goes with a key -/
def adv (s : TStroke) : Int := 160 * (4 + s.pause % 8) + 160 * (1 + s.hold % 10)
def E (l : List TStroke) : Nat → Int
  | 0 => 0
  | k + 1 => E l k + adv (sk l k)
def D (l : List TStroke) (i : Nat) : Int := E l i + 160 * (4 + (sk l i).pause % 8)
/-- the time stamp of key i -/
def TT (t : Int) (l : List TStroke) (i : Nat) : Int := (t + D l i) % 4294967296
def good (t : Int) (l : List TStroke) (m : Nat) (p : Sent) : Prop := ∃ i : Nat, i < m ∧ p.key = i ∧ p.time = TT t l i ∧ p.code = (sk l i).code ∧ 0 ≤ p.dur ∧ p.dur ≤ 65535
theorem E_le (l : List TStroke) (i : Nat) : ∀ j, i ≤ j → E l i ≤ E l j ∧ E l j ≤ E l i + 4000 * ((j : Int) - i)
  | 0, h => by
    obtain rfl : i = 0 := by omega
    simp
  | j + 1, h => by
    by_cases hi : i = j + 1
    · subst hi; simp
    · have ih := E_le l i j (by omega)
      have he : E l (j + 1) = E l j + adv (sk l j) := rfl
      have ha : 0 ≤ adv (sk l j) ∧ adv (sk l j) ≤ 4000 := by unfold adv; omega
      have hc : ((j + 1 : Nat) : Int) = (j : Int) + 1 := by omega
      omega
theorem D_gap (l : List TStroke) (i j : Nat) (h : i < j) (hj : j < 12) : 160 ≤ D l j - D l i ∧ D l j - D l i ≤ 100000 := by
  have h1 := E_le l (i + 1) j (by omega)
  have he : E l (i + 1) = E l i + adv (sk l i) := rfl
  have ha : adv (sk l i) = 160 * (4 + (sk l i).pause % 8) + 160 * (1 + (sk l i).hold % 10) := rfl
  unfold D
  have hc : ((i + 1 : Nat) : Int) = (i : Int) + 1 := by omega
  omega
/-- a later key's stamp is ahead -/
theorem TT_up (t : Int) (l : List TStroke) (i j : Nat) (h : i < j) (hj : j < 12) : 1 ≤ (TT t l j - TT t l i) % 4294967296 ∧ (TT t l j - TT t l i) % 4294967296 < 2147483648 := by
  have := D_gap l i j h hj
  unfold TT
  omega
/-- an earlier key's stamp is behind -/
theorem TT_down (t : Int) (l : List TStroke) (i j : Nat) (h : j < i) (hj : i < 12) : 2147483648 ≤ (TT t l j - TT t l i) % 4294967296 := by
  have := D_gap l j i h hj
  unfold TT
  omega
theorem TT_bd (t : Int) (l : List TStroke) (i : Nat) : 0 ≤ TT t l i ∧ TT t l i ≤ 4294967295 := by unfold TT; omega
/-- the sender behind j packets of a key -/
def SS (c t : Int) (hold j : Nat) : Ev.Snd := if j ≤ hold then ⟨true, c, 10, t, 160 * (j : Int), 0⟩ else eventsFrames.st c 10 t (160 * (hold : Int)) (j - hold)
theorem SS_on (c t : Int) (hold j : Nat) (h : j < hold) (hh : hold ≤ 10) : Ev.next (SS c t hold j) 160 = ⟨SS c t hold (j + 1), ⟨t, 160 * (j : Int) == 0, ⟨c, false, 10, 160 * ((j : Int) + 1)⟩⟩, true, 0⟩ := by
  have h1 : SS c t hold j = ⟨true, c, 10, t, 160 * (j : Int), 0⟩ := by unfold SS; rw [if_pos (by omega)]
  have h2 : SS c t hold (j + 1) = ⟨true, c, 10, t, 160 * ((j : Int) + 1), 0⟩ := by
    unfold SS; rw [if_pos (by omega)]
    have : ((j + 1 : Nat) : Int) = (j : Int) + 1 := by omega
    rw [this]
  rw [h1, h2, eventsFrames.next_on c 10 t _ 160 (by omega) (by omega) (by omega) (by omega) (by omega)]
  rw [show min (160 * (j : Int) + 160) 65535 = 160 * ((j : Int) + 1) by omega]
theorem SS_off (c t : Int) (hold j : Nat) (h0 : hold ≤ j) (h : j < hold + 3) (hh : hold ≤ 10) : Ev.next (eventsFrames.st c 10 t (160 * (hold : Int)) (j - hold)) 160 = ⟨SS c t hold (j + 1), ⟨t, false, ⟨c, true, 10, 160 * (hold : Int)⟩⟩, true, 0⟩ := by
  rw [eventsFrames.next_end c 10 t _ 160 (by omega) (by omega) (by omega) (by omega) (by omega) (j - hold) (by omega)]
  have : SS c t hold (j + 1) = eventsFrames.st c 10 t (160 * (hold : Int)) (j - hold + 1) := by
    unfold SS
    rw [if_neg (by omega)]
    congr 1; omega
  rw [this]
theorem SS_rel (c t : Int) (hold : Nat) (hh : hold ≤ 10) : Ev.release (SS c t hold hold) = (eventsFrames.st c 10 t (160 * (hold : Int)) 0, 0) := by
  unfold SS
  rw [if_pos (Nat.le_refl _), eventsFrames.release_on c 10 t _ (by omega) (by omega) (by omega)]
theorem SS_end (c t : Int) (hold : Nat) : SS c t hold (hold + 3) = Ev.Snd.zero := by
  unfold SS
  rw [if_neg (by omega)]
  unfold eventsFrames.st
  rw [if_pos (by omega)]
theorem info_sent : (Try.prog.info? 65).map (fun i => (i.zero, i.size, i.bytes)) = some (some (.agg #[.int .i64 0, .int .u32 0, .bool false, .int .u8 0, .bool false, .int .u8 0, .int .u16 0]), 7, 24) := by kernel_rfl
theorem info_key : (Try.prog.info? 70).map (fun i => (i.zero, i.size, i.bytes)) = some (some (.agg #[.int .u8 0, .bool false, .int .u32 0, .int .i64 0]), 4, 16) := by kernel_rfl
theorem rows3 {w : World} {B : Nat} {A : Option Addr} {l : List TStroke} (h : RowsAt w B 3 TStroke.row A l) {k : Nat} (hk : k < l.length) : ∃ b off, A = some ⟨b, off, none⟩ ∧ b < B ∧
    w.cell? ⟨b, off + k * 3, none⟩ = some (.int .u8 (sk l k).code) ∧ w.cell? ⟨b, off + k * 3 + 1, none⟩ = some (.int .u8 (sk l k).hold) ∧ w.cell? ⟨b, off + k * 3 + 2, none⟩ = some (.int .u8 (sk l k).pause) := by
  obtain ⟨b, off, rfl, hb, hc⟩ := h (by omega)
  have ha : l[k]? = some (sk l k) := by unfold sk; rw [List.getD_eq_getElem?_getD, List.getElem?_eq_getElem hk]; rfl
  exact ⟨b, off, rfl, hb, hc k _ ha 0 _ rfl, hc k _ ha 1 _ rfl, hc k _ ha 2 _ rfl⟩
theorem rows7 {w : World} {B : Nat} {A : Option Addr} {l : List Sent} (h : RowsAt w B 7 Sent.row A l) {k : Nat} {a : Sent} (ha : l[k]? = some a) : ∃ b off, A = some ⟨b, off, none⟩ ∧ b < B ∧
    w.cell? ⟨b, off + k * 7, none⟩ = some (.int .i64 a.key) ∧ w.cell? ⟨b, off + k * 7 + 1, none⟩ = some (.int .u32 a.time) ∧ w.cell? ⟨b, off + k * 7 + 2, none⟩ = some (.bool a.mark) ∧ w.cell? ⟨b, off + k * 7 + 3, none⟩ = some (.int .u8 a.code) ∧ w.cell? ⟨b, off + k * 7 + 4, none⟩ = some (.bool a.fin) ∧ w.cell? ⟨b, off + k * 7 + 5, none⟩ = some (.int .u8 a.vol) ∧ w.cell? ⟨b, off + k * 7 + 6, none⟩ = some (.int .u16 a.dur) := by
  obtain ⟨b, off, rfl, hb, hc⟩ := h (by have := (List.getElem?_eq_some_iff.1 ha).1; omega)
  exact ⟨b, off, rfl, hb, hc k a ha 0 _ rfl, hc k a ha 1 _ rfl, hc k a ha 2 _ rfl, hc k a ha 3 _ rfl, hc k a ha 4 _ rfl, hc k a ha 5 _ rfl, hc k a ha 6 _ rfl⟩
theorem ok_sk {l : List TStroke} (hok : ∀ a ∈ l, a.ok) {k : Nat} (hk : k < l.length) : 0 ≤ (sk l k).code ∧ (sk l k).code ≤ 255 ∧ 0 ≤ (sk l k).hold ∧ (sk l k).hold ≤ 255 ∧ 0 ≤ (sk l k).pause ∧ (sk l k).pause ≤ 255 := by
  have ha : sk l k ∈ l := by unfold sk; rw [List.getD_eq_getElem?_getD, List.getElem?_eq_getElem hk]; exact List.getElem_mem hk
  obtain ⟨h1, h2, h3⟩ := hok _ ha
  simp [Lit.wf, IntKind.min, IntKind.max, IntKind.signed, IntKind.bits] at h1 h2 h3
  omega
end Go.Proofs.Ytangooegialmcaa.eventsOnce
