/- Layer 29: Hear of the program. -/
import Derived.Test.YtangooegialmcaaEvTone
import Derived.Test.YtangooegialmcaaRowed
import Derived.RegionTactic
namespace Go.Proofs.Ytangooegialmcaa
open Go.RowKit
set_option linter.unusedVariables false
set_option linter.unusedSimpArgs false
attribute [local go_sem ↓] run_min_plain run_max_plain
attribute [local go_sem] setCell_drewN alloc_drewN
def Ev.Key.row (k : Ev.Key) : List Value := [.int .u8 k.code, .bool k.down, .int .u32 k.time, .int .i64 k.len]
def Ev.Rcv.row (r : Ev.Rcv) : Array Value := #[.bool r.on, .int .u32 r.time, .int .u8 r.code, .int .i64 r.len, .bool r.ended]
theorem Ev.info_key : (Try.prog.info? 70).map (fun i => (i.zero, i.size, i.bytes)) = some (some (.agg #[.int .u8 0, .bool false, .int .u32 0, .int .i64 0]), 4, 16) := by kernel_rfl
/-- in Hear: the receiver, the tone, the result's cell and the keys so far -/
structure Ev.HS (w0 w : World) (r : Ev.Rcv) (t : Array Value) (A : Option Addr) (n c : Nat) (xs : List Value) : Prop where
  b0 : Blk w w0.heap.size 24 #[.bool r.on, .int .u32 r.time, .int .u8 r.code, .int .i64 r.len, .bool r.ended]
  b1 : Blk w (w0.heap.size + 1) 31 t
  b2 : Blk w (w0.heap.size + 1 + 1) 24 #[.bool false, .int .u32 0, .int .u8 0, .int .i64 0, .bool false]
  b3 : Blk w (w0.heap.size + 1 + 1 + 1) 26 #[.slice A n c]
  own : Owns w (w0.heap.size + 4) 70 4 A n c xs
  bel : Below w0.heap.size w0 w
/-- behind the closure that appends the key that is up -/
def Ev.UpR (w0 : World) (r : Ev.Rcv) (t : Array Value) (n : Nat) (xs : List Value) (e : Ending) (w' : World) : Prop :=
  e = .returned (.tuple #[]) ∧ ∃ (A : Option Addr) (c : Nat), Ev.HS w0 w' r t A (n + 1) c (xs ++ [.int .u8 r.code, .bool false, .int .u32 r.time, .int .i64 r.len])
theorem Ev.HS.grown {w0 w w' : World} {r : Ev.Rcv} {t : Array Value} {A : Option Addr} {n c : Nat} {xs : List Value} (h : Ev.HS w0 w r t A n c xs) (hg : w.grownBy w' (ownB A)) {A' : Option Addr} {n' c' : Nat} {xs' : List Value}
    (ho : Owns w' (w0.heap.size + 4) 70 4 A' n' c' xs') : Ev.HS w0 (w'.setCell ⟨w0.heap.size + 1 + 1 + 1, 0, none⟩ (.slice A' n' c')) r t A' n' c' xs' := by
  have hne : ∀ g, g < w0.heap.size + 4 → some g ≠ ownB A := fun g hg' he => by have := (h.own.block g he.symm).1; omega
  have hn2 : ∀ g, ownB A' = some g → g ≠ w0.heap.size + 1 + 1 + 1 := fun g he => by have := (ho.block g he).1; omega
  exact ⟨(h.b0.grown hg (hne _ (by omega))).far (by simp; omega) _, (h.b1.grown hg (hne _ (by omega))).far (by simp) _, (h.b2.grown hg (hne _ (by omega))).far (by simp) _,
    (h.b3.grown hg (hne _ (by omega))).set_ 0 _, ho.setCell hn2 _, ((h.bel.grown hg h.bel.size (fun g he => by have := (h.own.block g he).1; omega)).setCell (by simp; omega) _)⟩
theorem Ev.HS.cell3 {w0 w w' : World} {r : Ev.Rcv} {t : Array Value} {A : Option Addr} {n c : Nat} {xs : List Value} (h : Ev.HS w0 w r t A n c xs) (hg : w.grownBy w' (ownB A)) :
    w'.cell? ⟨w0.heap.size + 1 + 1 + 1, 0, none⟩ = some (.slice A n c) ∧ w'.frozen? ⟨w0.heap.size + 1 + 1 + 1, 0, none⟩ = false := by
  have hb := h.b3.grown hg (fun he => by have := (h.own.block _ he.symm).1; omega)
  exact ⟨hb.at 0 _ rfl, hb.frozen 0⟩
set_option maxHeartbeats 800000 in
theorem Hear_up (w0 w : World) (r : Ev.Rcv) (t : Array Value) (A : Option Addr) (n c : Nat) (xs : List Value) (hn : n ≤ 10) (h : Ev.HS w0 w r t A n c xs) :
    Calls Try.prog 36 #[.pointer (some ⟨w0.heap.size + 1 + 1 + 1, 0, none⟩), .pointer (some ⟨w0.heap.size, 0, none⟩)] w (Ev.UpR w0 r t n xs) := by
  have H := Lib.hid h
  have c0 := h.b0.at 1 _ rfl
  have c1 := h.b0.at 2 _ rfl
  have c2 := h.b0.at 3 _ rfl
  have c3 := h.b3.at 0 _ rfl
  have f3 := h.b3.frozen 0
  have hs := h.bel.size
  have hlt := h.b3.lt
  have hbase : w0.heap.size + 4 ≤ w.heap.size := by have := h.b3.lt; omega
  clear h
  go_enter Try.func36, Try.ntmps36
  go_wp2_with (at_builtin; go_loud (refine wpList_append_one rfl _ _ 26 rfl (w0.heap.size + 4) 70 4 16 _ Try.underlying26 Ev.info_key rfl (by decide) A n c xs rfl H.out.own [.int .u8 r.code, .bool false, .int .u32 r.time, .int .i64 r.len] rfl (by simp [Value.oneCell']) rfl (by unfold maxLen; omega) (by omega) hbase ?_); intro A2 c2' w2 hown2 hg2 hlt2; obtain ⟨e3, g3⟩ := H.out.cell3 hg2)
  go_end0
  exact ⟨rfl, A2, c2', H.out.grown hg2 hown2⟩
/-- all that the walk reads, and may write -/
def Ev.HS.Seen (w0 w : World) (r : Ev.Rcv) (c : Int) (f : Bool) (v d : Int) (A : Option Addr) (n k : Nat) : Prop :=
  w.cell? ⟨w0.heap.size, 0, none⟩ = some (.bool r.on) ∧ w.frozen? ⟨w0.heap.size, 0, none⟩ = false ∧ w.cell? ⟨w0.heap.size, 1, none⟩ = some (.int .u32 r.time) ∧ w.frozen? ⟨w0.heap.size, 1, none⟩ = false ∧ w.cell? ⟨w0.heap.size, 2, none⟩ = some (.int .u8 r.code) ∧ w.frozen? ⟨w0.heap.size, 2, none⟩ = false ∧ w.cell? ⟨w0.heap.size, 3, none⟩ = some (.int .i64 r.len) ∧ w.frozen? ⟨w0.heap.size, 3, none⟩ = false ∧ w.cell? ⟨w0.heap.size, 4, none⟩ = some (.bool r.ended) ∧ w.frozen? ⟨w0.heap.size, 4, none⟩ = false ∧ w.cell? ⟨w0.heap.size + 1, 0, none⟩ = some (.int .u8 c) ∧ w.cell? ⟨w0.heap.size + 1, 1, none⟩ = some (.bool f) ∧ w.cell? ⟨w0.heap.size + 1, 2, none⟩ = some (.int .u8 v) ∧ w.cell? ⟨w0.heap.size + 1, 3, none⟩ = some (.int .u16 d) ∧ w.cell? ⟨w0.heap.size + 1 + 1, 0, none⟩ = some (.bool false) ∧ w.frozen? ⟨w0.heap.size + 1 + 1, 0, none⟩ = false ∧ w.cell? ⟨w0.heap.size + 1 + 1, 1, none⟩ = some (.int .u32 0) ∧ w.frozen? ⟨w0.heap.size + 1 + 1, 1, none⟩ = false ∧ w.cell? ⟨w0.heap.size + 1 + 1, 2, none⟩ = some (.int .u8 0) ∧ w.frozen? ⟨w0.heap.size + 1 + 1, 2, none⟩ = false ∧ w.cell? ⟨w0.heap.size + 1 + 1, 3, none⟩ = some (.int .i64 0) ∧ w.frozen? ⟨w0.heap.size + 1 + 1, 3, none⟩ = false ∧ w.cell? ⟨w0.heap.size + 1 + 1, 4, none⟩ = some (.bool false) ∧ w.frozen? ⟨w0.heap.size + 1 + 1, 4, none⟩ = false ∧ w.cell? ⟨w0.heap.size + 1 + 1 + 1, 0, none⟩ = some (.slice A n k) ∧ w.frozen? ⟨w0.heap.size + 1 + 1 + 1, 0, none⟩ = false ∧ w0.heap.size + 4 ≤ w.heap.size
theorem Ev.HS.seen {w0 w : World} {r : Ev.Rcv} {c : Int} {f : Bool} {v d : Int} {A : Option Addr} {n k : Nat} {xs : List Value} (h : Ev.HS w0 w r #[.int .u8 c, .bool f, .int .u8 v, .int .u16 d] A n k xs) : Ev.HS.Seen w0 w r c f v d A n k :=
  ⟨h.b0.at 0 _ rfl, h.b0.frozen 0, h.b0.at 1 _ rfl, h.b0.frozen 1, h.b0.at 2 _ rfl, h.b0.frozen 2, h.b0.at 3 _ rfl, h.b0.frozen 3, h.b0.at 4 _ rfl, h.b0.frozen 4, h.b1.at 0 _ rfl, h.b1.at 1 _ rfl, h.b1.at 2 _ rfl, h.b1.at 3 _ rfl, h.b2.at 0 _ rfl, h.b2.frozen 0, h.b2.at 1 _ rfl, h.b2.frozen 1, h.b2.at 2 _ rfl, h.b2.frozen 2, h.b2.at 3 _ rfl, h.b2.frozen 3, h.b2.at 4 _ rfl, h.b2.frozen 4, h.b3.at 0 _ rfl, h.b3.frozen 0, by have := h.b3.lt; omega⟩
theorem Ev.HS.bel_grown {w0 w w2 : World} {r : Ev.Rcv} {t : Array Value} {A : Option Addr} {n k : Nat} {xs : List Value} (h : Ev.HS w0 w r t A n k xs) (hg : w.grownBy w2 (ownB A)) : Below w0.heap.size w0 w2 :=
  h.bel.grown hg h.bel.size (fun g he => by have := (h.own.block g he).1; omega)
theorem Ev.HS.seen_grown {w0 w w2 : World} {r : Ev.Rcv} {c : Int} {f : Bool} {v d : Int} {A : Option Addr} {n k : Nat} {xs : List Value} (h : Ev.HS w0 w r #[.int .u8 c, .bool f, .int .u8 v, .int .u16 d] A n k xs) (hg : w.grownBy w2 (ownB A)) : Ev.HS.Seen w0 w2 r c f v d A n k := by
  have hne : ∀ g, g < w0.heap.size + 4 → some g ≠ ownB A := fun g hg' he => by have := (h.own.block g he.symm).1; omega
  have b0 := h.b0.grown hg (hne _ (by omega))
  have b1 := h.b1.grown hg (hne _ (by omega))
  have b2 := h.b2.grown hg (hne _ (by omega))
  have b3 := h.b3.grown hg (hne _ (by omega))
  have hs : w0.heap.size + 4 ≤ w2.heap.size := by have := h.b3.lt; have := hg.size; omega
  exact ⟨b0.at 0 _ rfl, b0.frozen 0, b0.at 1 _ rfl, b0.frozen 1, b0.at 2 _ rfl, b0.frozen 2, b0.at 3 _ rfl, b0.frozen 3, b0.at 4 _ rfl, b0.frozen 4, b1.at 0 _ rfl, b1.at 1 _ rfl, b1.at 2 _ rfl, b1.at 3 _ rfl, b2.at 0 _ rfl, b2.frozen 0, b2.at 1 _ rfl, b2.frozen 1, b2.at 2 _ rfl, b2.frozen 2, b2.at 3 _ rfl, b2.frozen 3, b2.at 4 _ rfl, b2.frozen 4, b3.at 0 _ rfl, b3.frozen 0, hs⟩
theorem Ev.HS.setR {w0 w : World} {r : Ev.Rcv} {t : Array Value} {A : Option Addr} {n c : Nat} {xs : List Value} (h : Ev.HS w0 w r t A n c xs) (q : Ev.Rcv) :
    Ev.HS w0 (((((w.setCell ⟨w0.heap.size, 0, none⟩ (.bool q.on)).setCell ⟨w0.heap.size, 1, none⟩ (.int .u32 q.time)).setCell ⟨w0.heap.size, 2, none⟩ (.int .u8 q.code)).setCell ⟨w0.heap.size, 3, none⟩ (.int .i64 q.len)).setCell ⟨w0.heap.size, 4, none⟩ (.bool q.ended)) q t A n c xs := by
  have hg : ∀ (i : Nat) g, ownB A = some g → g ≠ (⟨w0.heap.size, i, none⟩ : Addr).block := fun i g he => by have := (h.own.block g he).1; simp; omega
  refine ⟨(((((h.b0.set_ 0 _).set_ 1 _).set_ 2 _).set_ 3 _).set_ 4 _), ?_, ?_, ?_, ?_, ?_⟩
  · exact (((((h.b1.far (by simp) _).far (by simp) _).far (by simp) _).far (by simp) _).far (by simp) _)
  · exact (((((h.b2.far (by simp; omega) _).far (by simp; omega) _).far (by simp; omega) _).far (by simp; omega) _).far (by simp; omega) _)
  · exact (((((h.b3.far (by simp; omega) _).far (by simp; omega) _).far (by simp; omega) _).far (by simp; omega) _).far (by simp; omega) _)
  · exact (((((h.own.setCell (hg 0) _).setCell (hg 1) _).setCell (hg 2) _).setCell (hg 3) _).setCell (hg 4) _)
  · exact (((((h.bel.setCell (by simp) _).setCell (by simp) _).setCell (by simp) _).setCell (by simp) _).setCell (by simp) _)
theorem Ev.HS.setLen {w0 w : World} {r : Ev.Rcv} {t : Array Value} {A : Option Addr} {n c : Nat} {xs : List Value} (h : Ev.HS w0 w r t A n c xs) (l : Int) :
    Ev.HS w0 (w.setCell ⟨w0.heap.size, 3, none⟩ (.int .i64 l)) ⟨r.on, r.time, r.code, l, r.ended⟩ t A n c xs := by
  have hg : ∀ (i : Nat) g, ownB A = some g → g ≠ (⟨w0.heap.size, i, none⟩ : Addr).block := fun i g he => by have := (h.own.block g he).1; simp; omega
  exact ⟨h.b0.set_ 3 _, h.b1.far (by simp) _, h.b2.far (by simp; omega) _, h.b3.far (by simp; omega) _, h.own.setCell (hg 3) _, h.bel.setCell (by simp) _⟩
/-- what Hear leaves -/
def Ev.HearR (w : World) (R : Ev.Rcv × List Ev.Key) (e : Ending) (w' : World) : Prop :=
  ∃ (A : Option Addr) (c : Nat), e = .returned (.tuple #[.agg R.1.row, .slice A R.2.length c]) ∧ RowsNew w.heap.size w' 4 Ev.Key.row A R.2 ∧ Below w.heap.size w w'
theorem Ev.HearR.mk {w w' : World} {on ended : Bool} {time code len : Int} {ks : List Ev.Key} {A : Option Addr} {n c : Nat} (hn : ks.length = n) (h1 : RowsNew w.heap.size w' 4 Ev.Key.row A ks) (h2 : Below w.heap.size w w') :
    Ev.HearR w (⟨on, time, code, len, ended⟩, ks) (.returned (.tuple #[.agg #[.bool on, .int .u32 time, .int .u8 code, .int .i64 len, .bool ended], .slice A n c])) w' := by
  subst hn
  exact ⟨A, c, rfl, h1, h2⟩
theorem Ev.HS.start (w : World) (r : Ev.Rcv) (t : Array Value) : Ev.HS w ((((w.alloc (.cells #[.bool r.on, .int .u32 r.time, .int .u8 r.code, .int .i64 r.len, .bool r.ended] 24)).alloc (.cells t 31)).alloc (.cells #[.bool false, .int .u32 0, .int .u8 0, .int .i64 0, .bool false] 24)).alloc (.cells #[.slice none 0 0] 26)) r t none 0 0 [] :=
  ⟨(((Blk.new w _ _).push _).push _).push _, ((Blk.new1 w _ _ _).push _).push _, (Blk.new2 w _ _ _ _).push _, Blk.new3 w _ _ _ _ _, Owns.nil, ((((Bel.refl w).push _).push _).push _).push _⟩
theorem Ev.HS.start_size (w : World) (r : Ev.Rcv) (t : Array Value) : ((((w.alloc (.cells #[.bool r.on, .int .u32 r.time, .int .u8 r.code, .int .i64 r.len, .bool r.ended] 24)).alloc (.cells t 31)).alloc (.cells #[.bool false, .int .u32 0, .int .u8 0, .int .i64 0, .bool false] 24)).alloc (.cells #[.slice none 0 0] 26)).heap.size = w.heap.size + 1 + 1 + 1 + 1 := by simp
/-- the end: the receiver and the keys are handed out -/
theorem Ev.HS.out {w0 w : World} {r : Ev.Rcv} {t : Array Value} {A : Option Addr} {n c : Nat} {ks : List Ev.Key} (h : Ev.HS w0 w r t A n c (ks.flatMap Ev.Key.row)) (hn : ks.length = n) (w' : World) (hk : ∀ p : Addr, w0.heap.size + 4 ≤ p.block → w'.cell? p = w.cell? p) (hs : w'.heap.size = w.heap.size) (hb : Below w0.heap.size w0 w') :
    RowsAt w' w'.heap.size 4 Ev.Key.row A ks := by
  intro h0
  obtain ⟨g, rfl, hg, hlt⟩ := Owns.form h.own (by omega)
  obtain ⟨b, off, he, hb', hc⟩ := Owns.rows h.own hn (fun a => rfl) h0
  injection he with he
  injection he with e1 e2
  subst e1 e2
  exact ⟨g, 0, rfl, by omega, fun i a ha j v hv => (hk _ hg).trans (hc i a ha j v hv)⟩
end Go.Proofs.Ytangooegialmcaa
