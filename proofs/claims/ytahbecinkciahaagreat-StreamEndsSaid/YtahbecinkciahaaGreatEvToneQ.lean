/- Layer 29: EncodeTone and DecodeTone of the program and of the reference. -/
import Derived.Test.YtahbecinkciahaaGreatSs9Q
import Derived.Laws.BitsAllLaws
import Derived.RegionTactic
import Derived.Test.YtahbecinkciahaaGreatSbDecsQ
import Derived.Test.YtahbecinkciahaaGreatJtCopyQ
import Derived.Test.YtahbecinkciahaaGreatDelRefPackQ
import Derived.Deep.QuietTactic
import Derived.BigQuiet
import Derived.Test.YtahbecinkciahaaGreatSbLivRQ
import Derived.Test.YtahbecinkciahaaGreatRepArrQ
import Derived.Test.YtahbecinkciahaaGreatJtPutG1Q
import Derived.LoopN
import Derived.Test.YtahbecinkciahaaGreatJtRun2Q
set_option linter.unusedVariables false
set_option linter.unusedSimpArgs false
set_option maxRecDepth 100000
set_option maxHeartbeats 12800000
namespace Go.Proofs.YtahbecinkciahaaGreat
attribute [local go_sem ↓] Go.wp_at_zero Go.wp_at_succ
attribute [local go_sem] zaa zad
open Go.RowKit
theorem Ev.and_bits : ∀ n : Fin 256, bits BinOp.and IntKind.u8 (n.val : Int) 64 = (if n.val / 64 % 2 = 1 then 64 else 0) ∧ bits BinOp.and IntKind.u8 (n.val : Int) 63 = ((n.val % 64 : Nat) : Int) := by decide +kernel
theorem Ev.and_bits' (n : Nat) (h : n < 256) : bits BinOp.and IntKind.u8 (n : Int) 64 = (if n / 64 % 2 = 1 then 64 else 0) ∧ bits BinOp.and IntKind.u8 (n : Int) 63 = ((n % 64 : Nat) : Int) := Ev.and_bits ⟨n, h⟩
theorem Ev.and64 (b : Int) (h0 : 0 ≤ b) (h1 : b ≤ 255) : bits BinOp.and IntKind.u8 b 64 = if b / 64 % 2 = 1 then 64 else 0 := by
 obtain ⟨n, rfl⟩ := Int.eq_ofNat_of_zero_le h0
 rw [(Ev.and_bits' n (by omega)).1]
 by_cases h : n / 64 % 2 = 1
 · rw [if_pos h, if_pos (by omega)]
 · rw [if_neg h, if_neg (by omega)]
theorem Ev.and63 (b : Int) (h0 : 0 ≤ b) (h1 : b ≤ 255) : bits BinOp.and IntKind.u8 b 63 = b % 64 := by
 obtain ⟨n, rfl⟩ := Int.eq_ofNat_of_zero_le h0
 rw [(Ev.and_bits' n (by omega)).2]; omega
theorem Ev.or_bytes (x0 x1 : Int) (a0 : 0 ≤ x0) (b0 : x0 ≤ 255) (a1 : 0 ≤ x1) (b1 : x1 ≤ 255) : bits BinOp.or IntKind.u16 (x0 * 256) x1 = 256 * x0 + x1 := by
 obtain ⟨n0, rfl⟩ := Int.eq_ofNat_of_zero_le a0
 obtain ⟨n1, rfl⟩ := Int.eq_ofNat_of_zero_le a1
 have e : ((n0 : Int) * 256) = ((n0 * 256 : Nat) : Int) := by omega
 have h : n0 * 256 ||| n1 = n0 * 256 + n1 := by
  rw [show (256 : Nat) = 2 ^ 8 from rfl, ← Nat.shiftLeft_eq, Nat.shiftLeft_add_eq_or_of_lt (by omega)]
 rw [e, u16_or_nat (n0 * 256) n1 (by omega) (by omega), h]
 omega
theorem Ev.u16_in (x : Int) (h0 : 0 ≤ x) (h1 : x ≤ 65535) : IntKind.u16.wrap x = x := by
 simp [IntKind.wrap, IntKind.bits, IntKind.signed]
 omega
def Ev.Tone.row (t : Ev.Tone) : Array Value := #[.int .u8 t.code, .bool t.fin, .int .u8 t.vol, .int .u16 t.dur]
section
variable (c : Int) (f : Bool) (v d : Int) (w : World)
end
section
variable (A : Option Addr) (bs : List Int) (cap : Nat) (w : World)
theorem zel (n : Nat) (hn : (n : Int) < 4) :
 Calls Tryz.prog 40 #[.slice A n cap] w fun e w' => e = .returned (.tuple #[.agg #[.int .u8 0, .bool false, .int .u8 0, .int .u16 0], .int .u8 6]) ∧ Below w.heap.size w w' := by
 go_enter Tryz.func40, Tryz.ntmps40
 go_wp2
 refine bodyPost_ret (v := .tuple #[.agg #[.int .u8 0, .bool false, .int .u8 0, .int .u16 0], .int .u8 6]) (by simp [results, Tryz.results40, go_sem]) rfl ⟨rfl, ?_⟩
 repeat (first | exact Below.refl _ _ | refine Below.setCell ?_ (by simp) _ | refine Below.alloc ?_ (by simp; try omega) _)
theorem zfh (n : Nat) (hn : (4 : Int) < (n : Int)) (hd : decide ((n : Int) < 4) = false) (hm : (n : Int) ≤ 9223372036854775807) :
 Calls Tryz.prog 40 #[.slice A n cap] w fun e w' => e = .returned (.tuple #[.agg #[.int .u8 0, .bool false, .int .u8 0, .int .u16 0], .int .u8 5]) ∧ Below w.heap.size w w' := by
 go_enter Tryz.func40, Tryz.ntmps40
 go_wp2
 refine bodyPost_ret (v := .tuple #[.agg #[.int .u8 0, .bool false, .int .u8 0, .int .u16 0], .int .u8 5]) (by simp [results, Tryz.results40, go_sem]) rfl ⟨rfl, ?_⟩
 repeat (first | exact Below.refl _ _ | refine Below.setCell ?_ (by simp) _ | refine Below.alloc ?_ (by simp; try omega) _)
theorem zfr (b off : Nat) (x1 : Int) (h0 : 0 ≤ x1) (h1 : x1 ≤ 255) (hx : x1 / 64 % 2 = 1) (hc1 : w.cell? ⟨b, off + 1, none⟩ = some (.int .u8 x1)) :
 Calls Tryz.prog 40 #[.slice (some ⟨b, off, none⟩) 4 cap] w fun e w' => e = .returned (.tuple #[.agg #[.int .u8 0, .bool false, .int .u8 0, .int .u16 0], .int .u8 5]) ∧ Below w.heap.size w w' := by
 have hb := zdv hc1
 have hn1 : b ≠ w.heap.size := by simp at hb; omega
 have ha := Ev.and64 x1 h0 h1
 rw [if_pos hx] at ha
 have HX := H9 hx
 clear hx
 go_enter Tryz.func40, Tryz.ntmps40
 go_wp2
 refine bodyPost_ret (v := .tuple #[.agg #[.int .u8 0, .bool false, .int .u8 0, .int .u16 0], .int .u8 5]) (by simp [results, Tryz.results40, go_sem]) rfl ⟨rfl, ?_⟩
 repeat (first | exact Below.refl _ _ | refine Below.setCell ?_ (by simp) _ | refine Below.alloc ?_ (by simp; try omega) _)
theorem zhf (b off : Nat) (x0 x1 x2 x3 : Int) (g0 : 0 ≤ x0) (g1 : x0 ≤ 255) (h0 : 0 ≤ x1) (h1 : x1 ≤ 255) (i0 : 0 ≤ x2) (i1 : x2 ≤ 255) (j0 : 0 ≤ x3) (j1 : x3 ≤ 255) (hx : x1 / 64 % 2 = 0)
 (hc0 : w.cell? ⟨b, off, none⟩ = some (.int .u8 x0)) (hc1 : w.cell? ⟨b, off + 1, none⟩ = some (.int .u8 x1)) (hc2 : w.cell? ⟨b, off + 2, none⟩ = some (.int .u8 x2)) (hc3 : w.cell? ⟨b, off + 3, none⟩ = some (.int .u8 x3)) :
 Calls Tryz.prog 40 #[.slice (some ⟨b, off, none⟩) 4 cap] w fun e w' => e = .returned (.tuple #[.agg #[.int .u8 x0, .bool (decide (128 ≤ x1)), .int .u8 (x1 % 64), .int .u16 (256 * x2 + x3)], .int .u8 0]) ∧ Below w.heap.size w w' := by
 have hb := zdv hc1
 have hn1 : b ≠ w.heap.size := by simp at hb; omega
 have hn2 : w.heap.size ≠ b := by omega
 have ha := Ev.and64 x1 h0 h1
 rw [if_neg (by omega)] at ha
 have ha2 := Ev.and63 x1 h0 h1
 have ha3 := Ev.or_bytes x2 x3 i0 i1 j0 j1
 have HX := H9 hx
 have w2 := Ev.u16_in x2 (by omega) (by omega)
 have w3 := Ev.u16_in x3 (by omega) (by omega)
 have w4 := Ev.u16_in (x2 * 256) (by omega) (by omega)
 clear hx
 go_enter Tryz.func40, Tryz.ntmps40
 go_wp2
 go_region_held3 (fun w' => w'.cell? ⟨b, off, none⟩ = some (.int .u8 x0) ∧ w'.cell? ⟨b, off + 1, none⟩ = some (.int .u8 x1) ∧ w'.cell? ⟨b, off + 2, none⟩ = some (.int .u8 x2) ∧ w'.cell? ⟨b, off + 3, none⟩ = some (.int .u8 x3)) (go_keep) (fail)
 all_goals go_wp2
 all_goals
  refine bodyPost_ret (v := .tuple #[.agg #[.int .u8 x0, .bool (decide (128 ≤ x1)), .int .u8 (x1 % 64), .int .u16 (256 * x2 + x3)], .int .u8 0]) (by simp [results, Tryz.results40, go_sem, *]; try omega) rfl ⟨rfl, ?_⟩
  repeat (first | exact Below.refl _ _ | refine Below.drew ?_ | refine Below.setCell ?_ (by simp) _ | refine Below.alloc ?_ (by simp; try omega) _)
theorem zfs (hA : IntsAt w w.heap.size .u8 A bs) (hz : Within 0 255 bs) (hmax : bs.length ≤ maxLen) :
 Calls Tryz.prog 40 #[.slice A bs.length cap] w fun e w' => e = .returned (.tuple #[.agg (Ev.decT bs).1.row, .int .u8 (Ev.decT bs).2]) ∧ Below w.heap.size w w' := by
 unfold maxLen at hmax
 unfold Ev.decT
 by_cases h4 : bs.length < 4
 · rw [if_pos h4]; exact zel A cap w _ (by omega)
 · rw [if_neg h4]
   by_cases h5 : 4 < bs.length
   · rw [if_pos (.inl h5)]; exact zfh A cap w _ (by omega) (by simp; omega) (by omega)
   · have hl : bs.length = 4 := by omega
     obtain ⟨b, off, rfl, _, hc⟩ := hA (by omega)
     have c0 := hc 0 (by omega)
     have c1 := hc 1 (by omega)
     have c2 := hc 2 (by omega)
     have c3 := hc 3 (by omega)
     have b0 := hz.at (i := 0) (by omega)
     have b1 := hz.at (i := 1) (by omega)
     have b2 := hz.at (i := 2) (by omega)
     have b3 := hz.at (i := 3) (by omega)
     rw [hl]
     generalize bs.getD 0 0 = x0 at *
     generalize bs.getD 1 0 = x1 at *
     generalize bs.getD 2 0 = x2 at *
     generalize bs.getD 3 0 = x3 at *
     by_cases hx : x1 / 64 % 2 = 1
     · rw [if_pos (.inr hx)]; exact zfr cap w b off x1 b1.1 b1.2 hx c1
     · rw [if_neg (by omega)]; exact zhf cap w b off x0 x1 x2 x3 b0.1 b0.2 b1.1 b1.2 b2.1 b2.2 b3.1 b3.2 (by omega) c0 c1 c2 c3
end
end Go.Proofs.YtahbecinkciahaaGreat
namespace Go.Proofs.YtahbecinkciahaaGreat
attribute [local go_sem ↓] zab zac
attribute [local go_sem] zaa zad
open Go.RowKit
def Ev.Key.row (k : Ev.Key) : List Value := [.int .u8 k.code, .bool k.down, .int .u32 k.time, .int .i64 k.len]
def Ev.Rcv.row (r : Ev.Rcv) : Array Value := #[.bool r.on, .int .u32 r.time, .int .u8 r.code, .int .i64 r.len, .bool r.ended]
theorem Ev.info_key : (Tryz.prog.info? 89).map (fun i => (i.zero, i.size, i.bytes)) = some (some (.agg #[.int .u8 0, .bool false, .int .u32 0, .int .i64 0]), 4, 16) := by kernel_rfl
structure Ev.HS (w0 w : World) (r : Ev.Rcv) (t : Array Value) (A : Option Addr) (n c : Nat) (xs : List Value) : Prop where
 b0 : Blk w w0.heap.size 46 #[.bool r.on, .int .u32 r.time, .int .u8 r.code, .int .i64 r.len, .bool r.ended]
 b1 : Blk w (w0.heap.size + 1) 108 t
 b2 : Blk w (w0.heap.size + 1 + 1) 46 #[.bool false, .int .u32 0, .int .u8 0, .int .i64 0, .bool false]
 b3 : Blk w (w0.heap.size + 1 + 1 + 1) 78 #[.slice A n c]
 own : Owns w (w0.heap.size + 4) 89 4 A n c xs
 bel : Below w0.heap.size w0 w
def Ev.UpR (w0 : World) (r : Ev.Rcv) (t : Array Value) (n : Nat) (xs : List Value) (e : Ending) (w' : World) : Prop :=
 e = .returned (.tuple #[]) ∧ ∃ (A : Option Addr) (c : Nat), Ev.HS w0 w' r t A (n + 1) c (xs ++ [.int .u8 r.code, .bool false, .int .u32 r.time, .int .i64 r.len])
theorem Ev.HS.grown {w0 w w' : World} {r : Ev.Rcv} {t : Array Value} {A : Option Addr} {n c : Nat} {xs : List Value} (h : Ev.HS w0 w r t A n c xs) (hg : w.grownBy w' (ownB A)) {A' : Option Addr} {n' c' : Nat} {xs' : List Value}
 (ho : Owns w' (w0.heap.size + 4) 89 4 A' n' c' xs') : Ev.HS w0 (w'.setCell ⟨w0.heap.size + 1 + 1 + 1, 0, none⟩ (.slice A' n' c')) r t A' n' c' xs' := by
 have hne : ∀ g, g < w0.heap.size + 4 → some g ≠ ownB A := fun g hg' he => by have := (h.own.block g he.symm).1; omega
 have hn2 : ∀ g, ownB A' = some g → g ≠ w0.heap.size + 1 + 1 + 1 := fun g he => by have := (ho.block g he).1; omega
 exact ⟨(h.b0.grown hg (hne _ (by omega))).far (by simp; omega) _, (h.b1.grown hg (hne _ (by omega))).far (by simp) _, (h.b2.grown hg (hne _ (by omega))).far (by simp) _,
  (h.b3.grown hg (hne _ (by omega))).set_ 0 _, ho.setCell hn2 _, ((h.bel.grown hg h.bel.size (fun g he => by have := (h.own.block g he).1; omega)).setCell (by simp; omega) _)⟩
theorem Ev.HS.cell3 {w0 w w' : World} {r : Ev.Rcv} {t : Array Value} {A : Option Addr} {n c : Nat} {xs : List Value} (h : Ev.HS w0 w r t A n c xs) (hg : w.grownBy w' (ownB A)) :
 w'.cell? ⟨w0.heap.size + 1 + 1 + 1, 0, none⟩ = some (.slice A n c) ∧ w'.frozen? ⟨w0.heap.size + 1 + 1 + 1, 0, none⟩ = false := by
 have hb := h.b3.grown hg (fun he => by have := (h.own.block _ he.symm).1; omega)
 exact ⟨hb.at 0 _ rfl, hb.frozen 0⟩
theorem zec (w0 w : World) (r : Ev.Rcv) (t : Array Value) (A : Option Addr) (n c : Nat) (xs : List Value) (hn : n ≤ 10) (h : Ev.HS w0 w r t A n c xs) :
 Calls Tryz.prog 144 #[.pointer (some ⟨w0.heap.size + 1 + 1 + 1, 0, none⟩), .pointer (some ⟨w0.heap.size, 0, none⟩)] w (Ev.UpR w0 r t n xs) := by
 have H := H9 h
 have c0 := h.b0.at 1 _ rfl
 have c1 := h.b0.at 2 _ rfl
 have c2 := h.b0.at 3 _ rfl
 have c3 := h.b3.at 0 _ rfl
 have f3 := h.b3.frozen 0
 have hs := h.bel.size
 have hlt := h.b3.lt
 have hbase : w0.heap.size + 4 ≤ w.heap.size := by have := h.b3.lt; omega
 clear h
 go_enter Tryz.func144, Tryz.ntmps144
 go_wp2_with (at_builtin; go_loud (refine zaj rfl _ _ 78 rfl (w0.heap.size + 4) 89 4 16 _ Tryz.underlying78 Ev.info_key rfl (by decide) A n c xs rfl H.out.own [.int .u8 r.code, .bool false, .int .u32 r.time, .int .i64 r.len] rfl (by simp [Value.oneCell']) rfl (by unfold maxLen; omega) (by omega) hbase ?_); intro A2 c2' w2 hown2 hg2 hlt2; obtain ⟨e3, g3⟩ := H.out.cell3 hg2)
 go_end0
 exact ⟨rfl, A2, c2', H.out.grown hg2 hown2⟩
def Ev.HS.Seen (w0 w : World) (r : Ev.Rcv) (c : Int) (f : Bool) (v d : Int) (A : Option Addr) (n k : Nat) : Prop :=
 w.cell? ⟨w0.heap.size, 0, none⟩ = some (.bool r.on) ∧ w.frozen? ⟨w0.heap.size, 0, none⟩ = false ∧ w.cell? ⟨w0.heap.size, 1, none⟩ = some (.int .u32 r.time) ∧ w.frozen? ⟨w0.heap.size, 1, none⟩ = false ∧ w.cell? ⟨w0.heap.size, 2, none⟩ = some (.int .u8 r.code) ∧ w.frozen? ⟨w0.heap.size, 2, none⟩ = false ∧ w.cell? ⟨w0.heap.size, 3, none⟩ = some (.int .i64 r.len) ∧ w.frozen? ⟨w0.heap.size, 3, none⟩ = false ∧ w.cell? ⟨w0.heap.size, 4, none⟩ = some (.bool r.ended) ∧ w.frozen? ⟨w0.heap.size, 4, none⟩ = false ∧ w.cell? ⟨w0.heap.size + 1, 0, none⟩ = some (.int .u8 c) ∧ w.cell? ⟨w0.heap.size + 1, 1, none⟩ = some (.bool f) ∧ w.cell? ⟨w0.heap.size + 1, 2, none⟩ = some (.int .u8 v) ∧ w.cell? ⟨w0.heap.size + 1, 3, none⟩ = some (.int .u16 d) ∧ w.cell? ⟨w0.heap.size + 1 + 1, 0, none⟩ = some (.bool false) ∧ w.frozen? ⟨w0.heap.size + 1 + 1, 0, none⟩ = false ∧ w.cell? ⟨w0.heap.size + 1 + 1, 1, none⟩ = some (.int .u32 0) ∧ w.frozen? ⟨w0.heap.size + 1 + 1, 1, none⟩ = false ∧ w.cell? ⟨w0.heap.size + 1 + 1, 2, none⟩ = some (.int .u8 0) ∧ w.frozen? ⟨w0.heap.size + 1 + 1, 2, none⟩ = false ∧ w.cell? ⟨w0.heap.size + 1 + 1, 3, none⟩ = some (.int .i64 0) ∧ w.frozen? ⟨w0.heap.size + 1 + 1, 3, none⟩ = false ∧ w.cell? ⟨w0.heap.size + 1 + 1, 4, none⟩ = some (.bool false) ∧ w.frozen? ⟨w0.heap.size + 1 + 1, 4, none⟩ = false ∧ w.cell? ⟨w0.heap.size + 1 + 1 + 1, 0, none⟩ = some (.slice A n k) ∧ w.frozen? ⟨w0.heap.size + 1 + 1 + 1, 0, none⟩ = false ∧ w0.heap.size + 4 ≤ w.heap.size
theorem Ev.HS.seen {w0 w : World} {r : Ev.Rcv} {c : Int} {f : Bool} {v d : Int} {A : Option Addr} {n k : Nat} {xs : List Value} (h : Ev.HS w0 w r #[.int .u8 c, .bool f, .int .u8 v, .int .u16 d] A n k xs) : Ev.HS.Seen w0 w r c f v d A n k :=
 ⟨h.b0.at 0 _ rfl, h.b0.frozen 0, h.b0.at 1 _ rfl, h.b0.frozen 1, h.b0.at 2 _ rfl, h.b0.frozen 2, h.b0.at 3 _ rfl, h.b0.frozen 3, h.b0.at 4 _ rfl, h.b0.frozen 4, h.b1.at 0 _ rfl, h.b1.at 1 _ rfl, h.b1.at 2 _ rfl, h.b1.at 3 _ rfl, h.b2.at 0 _ rfl, h.b2.frozen 0, h.b2.at 1 _ rfl, h.b2.frozen 1, h.b2.at 2 _ rfl, h.b2.frozen 2, h.b2.at 3 _ rfl, h.b2.frozen 3, h.b2.at 4 _ rfl, h.b2.frozen 4, h.b3.at 0 _ rfl, h.b3.frozen 0, by have := h.b3.lt; omega⟩
theorem Ev.HS.bel_grown {w0 w w2 : World} {r : Ev.Rcv} {t : Array Value} {A : Option Addr} {n k : Nat} {xs : List Value} (h : Ev.HS w0 w r t A n k xs) (hg : w.grownBy w2 (ownB A)) : Below w0.heap.size w0 w2 :=
 h.bel.grown hg h.bel.size (fun g he => by have := (h.own.block g he).1; omega)
theorem Ev.HS.seen_grown {w0 w w2 : World} {r : Ev.Rcv} {c : Int} {f : Bool} {v d : Int} {A : Option Addr} {n k : Nat} {xs : List Value} (h : Ev.HS w0 w r #[.int .u8 c, .bool f, .int .u8 v, .int .u16 d] A n k xs) (hg : w.grownBy w2 (ownB A)) : Ev.HS.Seen w0 w2 r c f v d A n k := by
 have hne : ∀ g, g < w0.heap.size + 4 → some g ≠ ownB A := fun g hg' he => by have := (h.own.block g he.symm).1; omega
 have b0 := h.b0.grown hg (hne _ (by omega))
 have b1 := h.b1.grown hg (hne _ (by omega))
 have b2 := h.b2.grown hg (hne _ (by omega))
 have b3 := h.b3.grown hg (hne _ (by omega))
 have hs : w0.heap.size + 4 ≤ w2.heap.size := by have := h.b3.lt; have := hg.size; omega
 exact ⟨b0.at 0 _ rfl, b0.frozen 0, b0.at 1 _ rfl, b0.frozen 1, b0.at 2 _ rfl, b0.frozen 2, b0.at 3 _ rfl, b0.frozen 3, b0.at 4 _ rfl, b0.frozen 4, b1.at 0 _ rfl, b1.at 1 _ rfl, b1.at 2 _ rfl, b1.at 3 _ rfl, b2.at 0 _ rfl, b2.frozen 0, b2.at 1 _ rfl, b2.frozen 1, b2.at 2 _ rfl, b2.frozen 2, b2.at 3 _ rfl, b2.frozen 3, b2.at 4 _ rfl, b2.frozen 4, b3.at 0 _ rfl, b3.frozen 0, hs⟩
theorem Ev.HS.setR {w0 w : World} {r : Ev.Rcv} {t : Array Value} {A : Option Addr} {n c : Nat} {xs : List Value} (h : Ev.HS w0 w r t A n c xs) (q : Ev.Rcv) :
 Ev.HS w0 (((((w.setCell ⟨w0.heap.size, 0, none⟩ (.bool q.on)).setCell ⟨w0.heap.size, 1, none⟩ (.int .u32 q.time)).setCell ⟨w0.heap.size, 2, none⟩ (.int .u8 q.code)).setCell ⟨w0.heap.size, 3, none⟩ (.int .i64 q.len)).setCell ⟨w0.heap.size, 4, none⟩ (.bool q.ended)) q t A n c xs := by
 have hg : ∀ (i : Nat) g, ownB A = some g → g ≠ (⟨w0.heap.size, i, none⟩ : Addr).block := fun i g he => by have := (h.own.block g he).1; simp; omega
 refine ⟨(((((h.b0.set_ 0 _).set_ 1 _).set_ 2 _).set_ 3 _).set_ 4 _), ?_, ?_, ?_, ?_, ?_⟩
 · exact (((((h.b1.far (by simp) _).far (by simp) _).far (by simp) _).far (by simp) _).far (by simp) _)
 · exact (((((h.b2.far (by simp; omega) _).far (by simp; omega) _).far (by simp; omega) _).far (by simp; omega) _).far (by simp; omega) _)
 · exact (((((h.b3.far (by simp; omega) _).far (by simp; omega) _).far (by simp; omega) _).far (by simp; omega) _).far (by simp; omega) _)
 · exact (((((h.own.setCell (hg 0) _).setCell (hg 1) _).setCell (hg 2) _).setCell (hg 3) _).setCell (hg 4) _)
 · exact (((((h.bel.setCell (by simp) _).setCell (by simp) _).setCell (by simp) _).setCell (by simp) _).setCell (by simp) _)
def Ev.HearR (w : World) (R : Ev.Rcv × List Ev.Key) (e : Ending) (w' : World) : Prop :=
 ∃ (A : Option Addr) (c : Nat), e = .returned (.tuple #[.agg R.1.row, .slice A R.2.length c]) ∧ RowsNew w.heap.size w' 4 Ev.Key.row A R.2 ∧ Below w.heap.size w w'
theorem Ev.HearR.mk {w w' : World} {on ended : Bool} {time code len : Int} {ks : List Ev.Key} {A : Option Addr} {n c : Nat} (hn : ks.length = n) (h1 : RowsNew w.heap.size w' 4 Ev.Key.row A ks) (h2 : Below w.heap.size w w') :
 Ev.HearR w (⟨on, time, code, len, ended⟩, ks) (.returned (.tuple #[.agg #[.bool on, .int .u32 time, .int .u8 code, .int .i64 len, .bool ended], .slice A n c])) w' := by
 subst hn
 exact ⟨A, c, rfl, h1, h2⟩
theorem Ev.HS.start (w : World) (r : Ev.Rcv) (t : Array Value) : Ev.HS w ((((w.alloc (.cells #[.bool r.on, .int .u32 r.time, .int .u8 r.code, .int .i64 r.len, .bool r.ended] 46)).alloc (.cells t 108)).alloc (.cells #[.bool false, .int .u32 0, .int .u8 0, .int .i64 0, .bool false] 46)).alloc (.cells #[.slice none 0 0] 78)) r t none 0 0 [] :=
 ⟨(((Blk.new w _ _).push _).push _).push _, ((Blk.new1 w _ _ _).push _).push _, (Blk.new2 w _ _ _ _).push _, Blk.new3 w _ _ _ _ _, Owns.nil, ((((Bel.refl w).push _).push _).push _).push _⟩
theorem Ev.HS.start_size (w : World) (r : Ev.Rcv) (t : Array Value) : ((((w.alloc (.cells #[.bool r.on, .int .u32 r.time, .int .u8 r.code, .int .i64 r.len, .bool r.ended] 46)).alloc (.cells t 108)).alloc (.cells #[.bool false, .int .u32 0, .int .u8 0, .int .i64 0, .bool false] 46)).alloc (.cells #[.slice none 0 0] 78)).heap.size = w.heap.size + 1 + 1 + 1 + 1 := by simp
theorem Ev.HS.out {w0 w : World} {r : Ev.Rcv} {t : Array Value} {A : Option Addr} {n c : Nat} {ks : List Ev.Key} (h : Ev.HS w0 w r t A n c (ks.flatMap Ev.Key.row)) (hn : ks.length = n) (w' : World) (hk : ∀ p : Addr, w0.heap.size + 4 ≤ p.block → w'.cell? p = w.cell? p) (hs : w'.heap.size = w.heap.size) (hb : Below w0.heap.size w0 w') :
 RowsAt w' w'.heap.size 4 Ev.Key.row A ks := by
 intro h0
 obtain ⟨g, rfl, hg, hlt⟩ := Owns.form h.own (by omega)
 obtain ⟨b, off, he, hb', hc⟩ := Owns.rows h.own hn (fun a => rfl) h0
 injection he with he
 injection he with e1 e2
 subst e1 e2
 exact ⟨g, 0, rfl, by omega, fun i a ha j v hv => (hk _ hg).trans (hc i a ha j v hv)⟩
end Go.Proofs.YtahbecinkciahaaGreat
namespace Go.Proofs.YtahbecinkciahaaGreat
open Go.RowKit
structure TY where
 s : Sb.Sd
 S : Option Addr
 c : Nat
 K : Option Addr
 kc : Nat
def TY.row (a : TY) : List Value := [.int .i64 a.s.at_, .slice a.S a.s.zs.length a.c, .slice a.K a.s.ks.length a.kc]
def TS.ty (a : TS) : TY := ⟨a.s, a.S, a.c, none, 0⟩
theorem TS.ty_row {a : TS} (h : a.s.ks = []) : a.ty.row = a.row := by unfold TY.row TS.ty TS.row; simp [h]
theorem zju : ∀ (l : List TS), (∀ a ∈ l, a.s.ks = []) → (l.map TS.ty).flatMap TY.row = l.flatMap TS.row
 | [], _ => rfl
 | a :: l, h => by
   simp only [List.map_cons, List.flatMap_cons]
   rw [TS.ty_row (h a (by simp)), zju l fun b hb => h b (by simp [hb])]
theorem ty_s (l : List TS) : (l.map TS.ty).map TY.s = l.map TS.s := by rw [List.map_map]; rfl
structure Sks (w : World) (lo : Nat) (A : Option Addr) (l : List TY) : Prop where
 rows : RowsAt w w.heap.size 3 TY.row A l
 low : 0 < l.length → ∀ b off, A = some ⟨b, off, none⟩ → lo ≤ b
 pay : ∀ a ∈ l, IntsNew lo w .i16 a.S a.s.zs
 keys : ∀ a ∈ l, RowsNew lo w 4 Ev.Key.row a.K a.s.ks
theorem Sks.nil {w : World} {lo : Nat} : Sks w lo none [] := ⟨RowsAt.nil, (fun h0 => absurd h0 (by simp)), (fun _ h => by cases h), fun _ h => by cases h⟩
theorem Sks.later {w w' : World} {lo : Nat} {A : Option Addr} {l : List TY} (h : Sks w lo A l) (hb : Below w.heap.size w w') : Sks w' lo A l :=
 ⟨h.rows.later hb, h.low, fun a ha => ⟨(h.pay a ha).1.later hb, (h.pay a ha).2⟩, fun a ha => (h.keys a ha).later hb⟩
theorem Sks.less {w : World} {lo lo' : Nat} {A : Option Addr} {l : List TY} (h : Sks w lo A l) (hl : lo' ≤ lo) : Sks w lo' A l :=
 ⟨h.rows, fun h0 b off e => Nat.le_trans hl (h.low h0 b off e), fun a ha => ⟨(h.pay a ha).1, fun h0 b off e => Nat.le_trans hl ((h.pay a ha).2 h0 b off e)⟩, fun a ha => (h.keys a ha).less hl⟩
theorem Sks.only {w w' : World} {g lo : Nat} {A : Option Addr} {l : List TY} (h : Sks w lo A l) (ho : OnlyB g w w') (hg : g < lo) : Sks w' lo A l := by
 refine ⟨fun h0 => ?_, h.low, fun a ha => ⟨fun h0 => ?_, (h.pay a ha).2⟩, fun a ha => ⟨fun h0 => ?_, (h.keys a ha).2⟩⟩
 · obtain ⟨b, off, rfl, hb, hc⟩ := h.rows h0
   have := h.low h0 b off rfl
   exact ⟨b, off, rfl, by rw [ho.2]; exact hb, fun i a ha j v hv => (ho.cell (show b ≠ g by omega)).trans (hc i a ha j v hv)⟩
 · obtain ⟨b, off, e, hb, hc⟩ := (h.pay a ha).1 h0
   have := (h.pay a ha).2 h0 b off e
   exact ⟨b, off, e, by rw [ho.2]; exact hb, fun i hi => (ho.cell (show b ≠ g by omega)).trans (hc i hi)⟩
 · obtain ⟨b, off, e, hb, hc⟩ := (h.keys a ha).1 h0
   have := (h.keys a ha).2 h0 b off e
   exact ⟨b, off, e, by rw [ho.2]; exact hb, fun i a ha j v hv => (ho.cell (show b ≠ g by omega)).trans (hc i a ha j v hv)⟩
theorem Owns.lower {w : World} {base b0 size n c : Nat} {e : TypeId} {A : Option Addr} {xs : List Value} (h : Owns w base e size A n c xs) (hb : b0 ≤ base) : Owns w b0 e size A n c xs := by
 refine ⟨h.1, ?_⟩
 rcases h.2 with h2 | ⟨g', cap, cur, hv, h3, h4⟩
 · exact .inl h2
 · exact .inr ⟨g', cap, cur, hv, Nat.le_trans hb h3, h4⟩
theorem SOwn.lower {w : World} {base b0 n c : Nat} {A : Option Addr} {l : List TS} (h : SOwn w base A n c l) (hb : b0 ≤ base) : SOwn w b0 A n c l := ⟨h.len, h.own.lower hb, h.pay, h.far, fun a ha h0 b off e => Nat.le_trans hb (h.new a ha h0 b off e)⟩
theorem SOwn.sks {w : World} {base n c : Nat} {A : Option Addr} {l : List TS} (h : SOwn w base A n c l) (hk : ∀ a ∈ l, a.s.ks = []) : Sks w base A (l.map TS.ty) := by
 refine ⟨Owns.rows (by rw [zju l hk]; exact h.own) (by simp [h.len]) (fun a => rfl), fun _ b off e => (h.own.block b (by rw [e]; rfl)).1, fun a ha => ?_, fun a ha => ?_⟩
 · obtain ⟨b, hb, rfl⟩ := List.mem_map.1 ha
   exact ⟨h.pay b hb, h.new b hb⟩
 · obtain ⟨b, hb, rfl⟩ := List.mem_map.1 ha
   have e := hk b hb
   show RowsNew base w 4 Ev.Key.row none b.s.ks
   rw [e]
   exact RowsNew.nil
theorem SOwn.add {w wn : World} {base k c cn hi : Nat} {A An : Option Addr} {l : List TS} {a : TY} (h : SOwn w base A k c l) (hk : ∀ a ∈ l, a.s.ks = []) (hg : w.grownBy wn (ownB A))
 (qo : Owns wn base 86 3 An (k + 1) cn (l.flatMap TS.row ++ a.row)) (hz : a.s.zs = []) (hK : RowsNew hi w 4 Ev.Key.row a.K a.s.ks) (hhi : ∀ g, ownB A = some g → g < hi) (hbs : base ≤ hi) : Sks wn base An (l.map TS.ty ++ [a]) := by
 have s3 := hg.size
 refine ⟨Owns.rows (by rw [List.flatMap_append, zju l hk]; simpa using qo) (by simp [h.len]) (fun a => rfl), fun _ b off e => (qo.block b (by rw [e]; rfl)).1, fun x hx => ?_, fun x hx => ?_⟩
 · rcases List.mem_append.1 hx with hx | hx
   · obtain ⟨b, hb, rfl⟩ := List.mem_map.1 hx
     refine ⟨fun h0 => ?_, h.new b hb⟩
     obtain ⟨g, off, e, hlt, hc⟩ := h.pay b hb h0
     exact ⟨g, off, e, by omega, fun i hi => hg.cell (hc i hi) (h.far b hb h0 g off e)⟩
   · obtain rfl := List.mem_singleton.1 hx
     rw [hz]
     exact ⟨fun h0 => absurd h0 (by simp), fun h0 => absurd h0 (by simp)⟩
 · rcases List.mem_append.1 hx with hx | hx
   · obtain ⟨b, hb, rfl⟩ := List.mem_map.1 hx
     have e := hk b hb
     show RowsNew base wn 4 Ev.Key.row none b.s.ks
     rw [e]
     exact RowsNew.nil
   · obtain rfl := List.mem_singleton.1 hx
     refine ⟨fun h0 => ?_, fun h0 b off e => Nat.le_trans hbs (hK.2 h0 b off e)⟩
     obtain ⟨g, off, e, hlt, hc⟩ := hK.1 h0
     have hn := hK.2 h0 g off e
     exact ⟨g, off, e, by omega, fun i a ha j v hv => hg.cell (hc i a ha j v hv) (fun e2 => by have := hhi g e2.symm; omega)⟩
theorem zcg : ∀ (l : List Jb.Wt) (s : Int), ∀ a ∈ (Sb.sounds s l).2, a.ks = []
 | [], s, a, h => by cases h
 | b :: l, s, a, h => by
   have h : a ∈ _ :: _ := h
   rcases List.mem_cons.1 h with rfl | h
   · rfl
   · exact zcg l _ a h
theorem zed : (Tryz.prog.info? 108).map (·.size) = some 4 := by kernel_rfl
theorem zol (H : Ev.Rcv) : H.row = #[.bool H.on, .int .u32 H.time, .int .u8 H.code, .int .i64 H.len, .bool H.ended] := rfl
section
variable {P : Program} {w : World} {α : Type}
theorem zik {row : α → List Value} {size : Nat} (hrow : ∀ a, (row a).length = size) : ∀ (l : List α) (j : Nat) (u : Value), (l.flatMap row)[j]? = some u → ∃ (i k : Nat) (a : α), l[i]? = some a ∧ (row a)[k]? = some u ∧ j = i * size + k
 | [], j, u, h => by simp at h
 | a :: l, j, u, h => by
   rw [List.flatMap_cons] at h
   by_cases hj : j < size
   · rw [List.getElem?_append_left (by rw [hrow]; exact hj)] at h
     exact ⟨0, j, a, rfl, h, by omega⟩
   · rw [List.getElem?_append_right (by rw [hrow]; omega), hrow] at h
     obtain ⟨i, k, b, hi, hk, e⟩ := zik hrow l _ u h
     exact ⟨i + 1, k, b, by simpa using hi, hk, by rw [Nat.add_mul]; omega⟩
theorem zqk (b off j : Nat) : (⟨b, off, none⟩ : Addr).add j = ⟨b, off + j, none⟩ := by
 unfold Addr.add
 split <;> simp_all
theorem zmi {row : α → List Value} {size B : Nat} (hrow : ∀ a, (row a).length = size) {ad : Addr} {l : List α} (hr : RowsAt w B size row (some ad) l) : ∀ (j : Nat) (u : Value), (l.flatMap row)[j]? = some u → w.cell? (ad.add j) = some u := by
 intro j u hu
 obtain ⟨i, k, a, hi, hk, rfl⟩ := zik hrow l j u hu
 obtain ⟨b, off, e, _, hc⟩ := hr (by have := (List.getElem?_eq_some_iff.1 hi).1; omega)
 injection e with e
 subst e
 rw [zqk, ← Nat.add_assoc]
 exact hc i a hi k u hk
theorem zil {row : α → List Value} {size : Nat} (hrow : ∀ a, (row a).length = size) : ∀ l : List α, (l.flatMap row).length = l.length * size
 | [] => by simp
 | a :: l => by rw [List.flatMap_cons, List.length_append, hrow, zil hrow l, List.length_cons, Nat.add_mul]; omega
theorem zfi (base : Nat) (t ty e : TypeId) (z : Value) (size bytes : Nat) (ht : P.underlying t = some (.slice e)) (hinfo : (P.info? e).map (fun i => (i.zero, i.size, i.bytes)) = some (some z, size, bytes)) (hzs : z.cells.size = size) (hsz : 0 < size)
 (v : Value) (n : Nat) (xs : List Value) (qo : w.ownsRow base e size v n xs)
 (B : Nat) (row : α → List Value) (hrow : ∀ a, (row a).length = size) (hone : ∀ a, ∀ u ∈ row a, u.oneCell' = true) (A : Option Addr) (c : Nat) (l : List α) (hr : RowsAt w B size row A l) (h63 : n + l.length ≤ maxLen) (hbytes : (n + l.length) * bytes ≤ 140737488355328) (hbase : base ≤ w.heap.size) :
 ∃ A' c' w', (Builtin.append_ #[t, t] ty #[v, .slice A l.length c]).run P w = .ok (.slice A' (n + l.length) c') w' ∧ Owns w' base e size A' (n + l.length) c' (xs ++ l.flatMap row) ∧ w.grownBy w' v.ownBlock ∧
  (ownB A' = v.ownBlock ∨ ownB A' = some w.heap.size) := by
 obtain ⟨i, hi, hz0, hz1, hz2⟩ := info_parts hinfo
 have fin : ∀ v' w', (Builtin.append_ #[t, t] ty #[v, .slice A l.length c]).run P w = .ok v' w' → w'.ownsRow base e size v' (n + l.length) (xs ++ l.flatMap row) → w.grownBy w' v.ownBlock → (v'.ownBlock = v.ownBlock ∨ v'.ownBlock = some w.heap.size) →
  ∃ A' c' w', (Builtin.append_ #[t, t] ty #[v, .slice A l.length c]).run P w = .ok (.slice A' (n + l.length) c') w' ∧ Owns w' base e size A' (n + l.length) c' (xs ++ l.flatMap row) ∧ w.grownBy w' v.ownBlock ∧ (ownB A' = v.ownBlock ∨ ownB A' = some w.heap.size) := by
  intro v' w' h1 h2 h3 h4
  obtain ⟨A', c', rfl⟩ := zkj h2
  rw [zch] at h4
  exact ⟨A', c', w', h1, h2, h3, h4⟩
 rcases A with _ | ad
 · have hz : l = [] := by
    rcases Nat.eq_zero_or_pos l.length with h0 | h0
    · exact List.eq_nil_of_length_eq_zero h0
    · obtain ⟨b, off, h, _⟩ := hr h0
      cases h
   subst hz
   exact fin v w (zdd base t ty e i size ht hi v n xs qo none c rfl) (by simpa using qo) (World.grownBy.refl w _) (.inl rfl)
 · obtain ⟨v', w', hrun, h2, h3, _, h5⟩ := run_append_own_at (P := P) w base t ty e i z size bytes ht hi hz0 hz1 hz2 hzs hsz v n xs qo ad l.length c (l.flatMap row) (zil hrow l) (zmi hrow hr) (by
    intro u hu
    obtain ⟨x, _, hx⟩ := List.mem_flatMap.1 hu
    exact hone x u hx) h63 hbytes hbase
   exact fin v' w' hrun h2 h3 h5
theorem zbu {ops : Array Oper} {rest : List Oper} {o : Oper} {a : Act} {Q : Exit → Act → World → Prop} (hgd : o.guard = none) (s x : Operand) (t : TypeId)
 (ho : o.op = .call { callee := .builtin .append, args := #[s, x], argTypes := #[t, t] })
 (base : Nat) (e : TypeId) (size bytes : Nat) (z : Value) (ht : P.underlying t = some (.slice e)) (hinfo : (P.info? e).map (fun i => (i.zero, i.size, i.bytes)) = some (some z, size, bytes)) (hzs : z.cells.size = size) (hsz : 0 < size)
 (A0 : Option Addr) (n c0 : Nat) (xs : List Value) (hs : a.eval s = .slice A0 n c0) (qo : Owns w base e size A0 n c0 xs)
 (B : Nat) (row : α → List Value) (hrow : ∀ a, (row a).length = size) (hone : ∀ a, ∀ u ∈ row a, u.oneCell' = true) (A : Option Addr) (k c : Nat) (l : List α) (hx : a.eval x = .slice A k c) (hr : RowsAt w B size row A l) (hk : l.length = k) (h63 : n + l.length ≤ maxLen) (hbytes : (n + l.length) * bytes ≤ 140737488355328) (hbase : base ≤ w.heap.size) (m : Nat) (hm : n + l.length = m)
 (h : ∀ (A' : Option Addr) (c' : Nat) (w' : World), Owns w' base e size A' m c' (xs ++ l.flatMap row) → w.grownBy w' (ownB A0) → (ownB A' = ownB A0 ∨ ownB A' = some w.heap.size) → wpList P ops Q rest (a.put o.dst (.slice A' m c')) w') :
 wpList P ops Q (o :: rest) a w := by
 subst hm hk
 obtain ⟨A', c', w', hrun, h2, h3, h4⟩ := zfi (P := P) base t o.type e z size bytes ht hinfo hzs hsz (.slice A0 n c0) n xs qo B row hrow hone A c l hr h63 hbytes hbase
 rw [zch] at h3 h4
 refine wpList_plain hgd fun K hK => ?_
 unfold Oper.wp execOp
 simp only [ho, resolve, invoke, builtin, Sem.run_bind, Sem.run_pure, Result.andThen_ok, List.map_toArray, List.map_cons, List.map_nil, hs, hx, hrun]
 exact hK _ _ (h A' c' w' h2 h3 h4)
theorem RowsAt.drop {row : α → List Value} {size B : Nat} {b off : Nat} {l : List α} (h : RowsAt w B size row (some ⟨b, off, none⟩) l) (n : Nat) : RowsAt w B size row (some ⟨b, off + n * size, none⟩) (l.drop n) := fun h0 => by
 obtain ⟨b', off', e, hb, hc⟩ := h (by simp at h0; omega)
 injection e with e
 injection e with e1 e2
 subst e1 e2
 refine ⟨b, off + n * size, rfl, hb, fun i a hi j v hv => ?_⟩
 rw [List.getElem?_drop] at hi
 have := hc (n + i) a hi j v hv
 rwa [Nat.add_mul, ← Nat.add_assoc] at this
end
def RowsAv {α : Type} (W : World) (S : List Nat) (size : Nat) (row : α → List Value) (A : Option Addr) (l : List α) : Prop := RowsAt W W.heap.size size row A l ∧ (0 < l.length → ∀ b off, A = some ⟨b, off, none⟩ → b ∉ S)
section
variable {α : Type} {row : α → List Value} {W W' : World} {S T : List Nat} {size : Nat} {A : Option Addr} {l : List α} {k : IntKind} {zs : List Int} {ql : List TW}
theorem RowsAv.chg (h : RowsAv W S size row A l) (hc : Chg T W W') (hs : ∀ x ∈ T, x ∈ S) : RowsAv W' S size row A l := by
 refine ⟨fun h0 => ?_, h.2⟩
 obtain ⟨b, off, e, hlt, qc⟩ := h.1 h0
 exact ⟨b, off, e, Nat.lt_of_lt_of_le hlt hc.size, fun i a ha j v hv => (hc.cell (p := ⟨b, off + i * size + j, none⟩) hlt (fun hb => h.2 h0 b off e (hs b hb))).trans (qc i a ha j v hv)⟩
theorem RowsAv.re (h : RowsAv W S size row A l) (hs : ∀ x ∈ T, x ∈ S ∨ W.heap.size ≤ x) : RowsAv W T size row A l := ⟨h.1, fun h0 b off e hb => by
 rcases hs b hb with h1 | h1
 · exact h.2 h0 b off e h1
 · obtain ⟨b', off', e', hlt, _⟩ := h.1 h0
   rw [e] at e'; injection e' with e'; injection e' with e1 _; omega⟩
theorem RowsAv.of_new {n : Nat} (h : RowsNew n W size row A l) (hs : ∀ x ∈ S, x < n) : RowsAv W S size row A l := ⟨h.1, fun h0 b off e hb => by have := h.2 h0 b off e; have := hs b hb; omega⟩
theorem IntsAv.re (h : IntsAv W S k A zs) (hs : ∀ x ∈ T, x ∈ S ∨ W.heap.size ≤ x) : IntsAv W T k A zs := ⟨h.1, fun h0 b off e hb => by
 rcases hs b hb with h1 | h1
 · exact h.2 h0 b off e h1
 · obtain ⟨b', off', e', hlt, _⟩ := h.1 h0
   rw [e] at e'; injection e' with e'; injection e' with e1 _; omega⟩
theorem QAv.re (h : QAv W S A ql) (hs : ∀ x ∈ T, x ∈ S ∨ W.heap.size ≤ x) : QAv W T A ql := by
 refine ⟨h.wts, fun h0 b off e hb => ?_, fun a ha h0 b off e hb => ?_⟩
 · rcases hs b hb with h1 | h1
   · exact h.row h0 b off e h1
   · obtain ⟨b', off', e', hlt, _⟩ := h.wts.1 h0
     rw [e] at e'; injection e' with e'; injection e' with e1 _; omega
 · rcases hs b hb with h1 | h1
   · exact h.pay a ha h0 b off e h1
   · obtain ⟨b', off', e', hlt, _⟩ := h.wts.2 a ha h0
     rw [e] at e'; injection e' with e'; injection e' with e1 _; omega
end
def ES (bx : List Nat) (WA GA : Option Addr) : List Nat := bx ++ ((ownB WA).toList ++ (ownB GA).toList)
theorem zbs {bx : List Nat} {WA GA : Option Addr} {x : Nat} : x ∈ ES bx WA GA ↔ x ∈ bx ∨ ownB WA = some x ∨ ownB GA = some x := by
 unfold ES
 simp [eq_comm]
structure EM (W : World) (M : Nat) (bx : List Nat) (WA : Option Addr) (wc : Nat) (wl : List TS) (GA : Option Addr) (gc : Nat) (gl : List TY) (QA : Option Addr) (ql : List TW) : Prop where
 wown : Owns W M 86 3 WA wl.length wc (wl.flatMap TS.row)
 gown : Owns W M 86 3 GA gl.length gc (gl.flatMap TY.row)
 ne : ∀ g, ownB WA = some g → ownB GA ≠ some g
 wpay : ∀ a ∈ wl, IntsAv W (ES bx WA GA) .i16 a.S a.s.zs
 gpay : ∀ a ∈ gl, IntsAv W (ES bx WA GA) .i16 a.S a.s.zs
 gkey : ∀ a ∈ gl, RowsAv W (ES bx WA GA) 4 Ev.Key.row a.K a.s.ks
 q : QAv W (ES bx WA GA) QA ql
 bm : ∀ x ∈ bx, x < M
 ms : M ≤ W.heap.size
section
variable {W W' : World} {M : Nat} {bx : List Nat} {WA An : Option Addr} {wc cn : Nat} {wl : List TS} {GA : Option Addr} {gc : Nat} {gl gl' : List TY} {QA QA' : Option Addr} {ql ql' : List TW}
theorem EM.start (hb : ∀ x ∈ bx, x < M) (hm : M ≤ W.heap.size) : EM W M bx none 0 [] none 0 [] none [] :=
 ⟨Owns.nil, Owns.nil, (fun g h => by cases h), (fun _ h => by cases h), (fun _ h => by cases h), (fun _ h => by cases h), QAv.nil, hb, hm⟩
theorem EM.chg (h : EM W M bx WA wc wl GA gc gl QA ql) {T : List Nat} (hc : Chg T W W') (hs : ∀ x ∈ T, x ∈ bx) : EM W' M bx WA wc wl GA gc gl QA ql := by
 have ht : ∀ x ∈ T, x ∈ ES bx WA GA := fun x hx => zbs.2 (.inl (hs x hx))
 have hM := h.bm
 exact ⟨hc.owns h.wown (fun k hk hk2 => by have := (h.wown.block k hk).1; have := hM k (hs k hk2); omega), hc.owns h.gown (fun k hk hk2 => by have := (h.gown.block k hk).1; have := hM k (hs k hk2); omega), h.ne,
  fun a ha => (h.wpay a ha).chg hc ht, fun a ha => (h.gpay a ha).chg hc ht, fun a ha => (h.gkey a ha).chg hc ht, h.q.chg hc ht, hM, Nat.le_trans h.ms hc.size⟩
theorem EM.later (h : EM W M bx WA wc wl GA gc gl QA ql) (hb : Below W.heap.size W W') : EM W' M bx WA wc wl GA gc gl QA ql := h.chg (T := []) (Chg.of_below hb) (by simp)
theorem EM.push (h : EM W M bx WA wc wl GA gc gl QA ql) (o : Obj) : EM (W.alloc o) M bx WA wc wl GA gc gl QA ql := h.later ((Below.refl _ _).alloc (Nat.le_refl _) _)
theorem EM.box (h : EM W M bx WA wc wl GA gc gl QA ql) {g : Nat} (ho : OnlyB g W W') (hg : g ∈ bx) : EM W' M bx WA wc wl GA gc gl QA ql := h.chg (T := [g]) (Chg.of_only ho (by simp)) (by intro x hx; simp at hx; rw [hx]; exact hg)
theorem EM.queue (h : EM W M bx WA wc wl GA gc gl QA ql) (hq : QAv W (ES bx WA GA) QA' ql') : EM W M bx WA wc wl GA gc gl QA' ql' := ⟨h.wown, h.gown, h.ne, h.wpay, h.gpay, h.gkey, hq, h.bm, h.ms⟩
theorem EM.want (h : EM W M bx WA wc wl GA gc gl QA ql) (a : TS) (hg : W.grownBy W' (ownB WA)) (qo : Owns W' M 86 3 An (wl.length + 1) cn (wl.flatMap TS.row ++ a.row)) (hat : ownB An = ownB WA ∨ ∀ g, ownB An = some g → W.heap.size ≤ g)
 (hp : IntsAv W (ES bx WA GA) .i16 a.S a.s.zs) : EM W' M bx An cn (wl ++ [a]) GA gc gl QA ql := by
 have hc : Chg (ES bx WA GA) W W' := Chg.of_grown hg fun k e => .inl (zbs.2 (.inr (.inl e)))
 have hre : ∀ x ∈ ES bx An GA, x ∈ ES bx WA GA ∨ W.heap.size ≤ x := fun x hx => by
  rcases zbs.1 hx with h1 | h1 | h1
  · exact .inl (zbs.2 (.inl h1))
  · rcases hat with h2 | h2
    · exact .inl (zbs.2 (.inr (.inl (h2.symm.trans h1))))
    · exact .inr (h2 x h1)
  · exact .inl (zbs.2 (.inr (.inr h1)))
 have hself : ∀ x ∈ ES bx WA GA, x ∈ ES bx WA GA := fun _ h => h
 have mv : ∀ {A : Option Addr} {zs : List Int}, IntsAv W (ES bx WA GA) .i16 A zs → IntsAv W' (ES bx An GA) .i16 A zs := fun hi => ⟨(hi.chg hc hself).1, (hi.re hre).2⟩
 refine ⟨by rw [List.length_append, List.flatMap_append]; simpa using qo, h.gown.grown hg (fun g e e2 => h.ne g e2 e), fun g e e2 => ?_, fun x hx => ?_, fun x hx => mv (h.gpay x hx), fun x hx => ⟨((h.gkey x hx).chg hc hself).1, ((h.gkey x hx).re hre).2⟩, ⟨(h.q.chg hc hself).wts, (h.q.re hre).row, (h.q.re hre).pay⟩, h.bm, Nat.le_trans h.ms hg.size⟩
 · rcases hat with h2 | h2
   · exact h.ne g (h2.symm.trans e) e2
   · have := h2 g e
     have := (h.gown.block g e2).2
     omega
 · rcases List.mem_append.1 hx with hx | hx
   · exact mv (h.wpay x hx)
   · obtain rfl := List.mem_singleton.1 hx
     exact mv hp
theorem EM.got (h : EM W M bx WA wc wl GA gc gl QA ql) (hg : W.grownBy W' (ownB GA)) (qo : Owns W' M 86 3 An (gl.length + gl'.length) cn (gl.flatMap TY.row ++ gl'.flatMap TY.row)) (hat : ownB An = ownB GA ∨ ownB An = some W.heap.size)
 (hp : ∀ a ∈ gl', IntsAv W (ES bx WA GA) .i16 a.S a.s.zs) (hk : ∀ a ∈ gl', RowsAv W (ES bx WA GA) 4 Ev.Key.row a.K a.s.ks) : EM W' M bx WA wc wl An cn (gl ++ gl') QA ql := by
 have hc : Chg (ES bx WA GA) W W' := Chg.of_grown hg fun k e => .inl (zbs.2 (.inr (.inr e)))
 have hre : ∀ x ∈ ES bx WA An, x ∈ ES bx WA GA ∨ W.heap.size ≤ x := fun x hx => by
  rcases zbs.1 hx with h1 | h1 | h1
  · exact .inl (zbs.2 (.inl h1))
  · exact .inl (zbs.2 (.inr (.inl h1)))
  · rcases hat with h2 | h2
    · exact .inl (zbs.2 (.inr (.inr (h2.symm.trans h1))))
    · rw [h2] at h1; injection h1 with h1; exact .inr (by omega)
 have hself : ∀ x ∈ ES bx WA GA, x ∈ ES bx WA GA := fun _ h => h
 have mv : ∀ {A : Option Addr} {zs : List Int}, IntsAv W (ES bx WA GA) .i16 A zs → IntsAv W' (ES bx WA An) .i16 A zs := fun hi => ⟨(hi.chg hc hself).1, (hi.re hre).2⟩
 have mk : ∀ {A : Option Addr} {l : List Ev.Key}, RowsAv W (ES bx WA GA) 4 Ev.Key.row A l → RowsAv W' (ES bx WA An) 4 Ev.Key.row A l := fun hi => ⟨(hi.chg hc hself).1, (hi.re hre).2⟩
 refine ⟨h.wown.grown hg (fun g e e2 => h.ne g e e2), by rw [List.length_append, List.flatMap_append]; exact qo, fun g e e2 => ?_, fun x hx => mv (h.wpay x hx), fun x hx => ?_, fun x hx => ?_, ⟨(h.q.chg hc hself).wts, (h.q.re hre).row, (h.q.re hre).pay⟩, h.bm, Nat.le_trans h.ms hg.size⟩
 · rcases hat with h2 | h2
   · exact h.ne g e (h2.symm.trans e2)
   · rw [h2] at e2; injection e2 with e2
     have := (h.wown.block g e).2
     omega
 · rcases List.mem_append.1 hx with hx | hx
   · exact mv (h.gpay x hx)
   · exact mv (hp x hx)
 · rcases List.mem_append.1 hx with hx | hx
   · exact mk (h.gkey x hx)
   · exact mk (hk x hx)
theorem EM.lt (h : EM W M bx WA wc wl GA gc gl QA ql) : ∀ x ∈ ES bx WA GA, x < W.heap.size := fun x hx => by
 rcases zbs.1 hx with h1 | h1 | h1
 · exact Nat.lt_of_lt_of_le (h.bm x h1) h.ms
 · exact (h.wown.block x h1).2
 · exact (h.gown.block x h1).2
end
theorem TY.rowlen (a : TY) : a.row.length = 3 := rfl
theorem TY.one (a : TY) : ∀ u ∈ a.row, u.oneCell' = true := by intro u hu; simp [TY.row] at hu; rcases hu with rfl | rfl | rfl <;> rfl
end Go.Proofs.YtahbecinkciahaaGreat
namespace Go.Proofs.YtahbecinkciahaaGreat
attribute [local go_sem ↓] zab zac
attribute [local go_sem] zaa zad
open Go.RowKit
theorem zsk {w W : World} {p : Sb.Pt} {A : Option Addr} {l : List TW} {n c : Nat} {x : Rx} {now : Int} (C : RC w p A l n c x now) (S : RS w W p A n c x) {R : Ending → World → Prop} (h101 : x.ty = 101) (hz : Within 0 255 x.pl) (T : Ev.Tone) (er : Int) (hT : Ev.decT x.pl = (T, er)) (kn : Bool) (hkn : kn = (er == 0))
 (h : ∀ (W : World) (a : Act) (gt : Nat), RS w W p A n c x → Blk W gt 108 #[.int .u8 T.code, .bool T.fin, .int .u8 T.vol, .int .u16 T.dur] → w.heap.size < gt → FrB w.heap.size now gt kn a → firstWp Tryz.prog rcB_code (bodyPost Tryz.prog Tryz.f11 R) a W) (a : Act) (ha : FrA w.heap.size now a) : firstWp Tryz.prog rcA_code (bodyPost Tryz.prog Tryz.f11 R) a W := by
 obtain ⟨s, rfl, e1, e3, e5, e6, _⟩ := ha
 rw [r164, e1, e3, e5, e6]
 clear e1 e3 e5 e6
 have k2 := H9 fun W => zda 101 W (by decide) (by decide)
 have hs1 : speechB 101 = false := rfl
 rw [hs1] at k2
 have k3 := H9 fun (W : World) hW => zfs x.B x.pl x.pc W hW hz (Nat.le_trans C.h15 (by decide))
 rw [hT] at k3
 unfold Ev.Tone.row at k3
 have HI := H9 C.pl
 have HX := H9 h101
 have HK := H9 hkn
 clear hT hz hs1 h101 hkn
 refine zct ?_
 intro _ _
 have BT := H9 (Blk.new W 108 #[.int .u8 0, .bool false, .int .u8 0, .int .u16 0])
 have hgt' : w.heap.size < W.heap.size := by have := S.b2.lt; omega
 replace S := S.push (.cells #[.int .u8 0, .bool false, .int .u8 0, .int .u16 0] 108)
 obtain ⟨W2, hW2⟩ : ∃ V, V = W.alloc (Obj.cells #[.int .u8 0, .bool false, .int .u8 0, .int .u16 0] 108) := ⟨_, rfl⟩
 go_upto_region 7 with fail
 rw [← hW2] at S BT ⊢
 obtain ⟨gt, hgt⟩ : ∃ g, g = W.heap.size := ⟨_, rfl⟩
 rw [← hgt] at BT hgt' ⊢
 clear hW2 hgt
 have x1 := S.c1
 rw [HX.out] at x1
 go_wp2_with fail
 refine (k2.out _).mono ?_
 rintro e w3 ⟨rfl, hb1⟩
 replace S := S.later hb1
 replace BT := H9 (BT.out.later hb1)
 clear hb1 k2 x1
 have x1 := S.c1
 have x9 := S.c9
 rw [HX.out] at x1
 go_wp2_with fail
 refine (k3.out _ (HI.out.later S.u)).mono ?_
 rintro e w4 ⟨rfl, hb1⟩
 replace S := S.later hb1
 replace BT := H9 (BT.out.later hb1)
 clear hb1 k3 x1 x9
 go_upto_region 10 with (first | (refine zaf rfl 108 (.tmp 11) (.tmp 54) rfl (gt) 0 rfl 108 ([.int .u8 0, .bool false, .int .u8 0, .int .u16 0]) BT.out ([.int .u8 T.code, .bool T.fin, .int .u8 T.vol, .int .u16 T.dur]) rfl zed (show 0 + 4 ≤ 4 by decide) rfl ([.int .u8 T.code, .bool T.fin, .int .u8 T.vol, .int .u16 T.dur]) rfl ?_; intro WG BG OG) | fail)
 have hn2 : gt ≠ w.heap.size + 1 := fun e => by have h1 := BT.out; rw [e] at h1; have h2 := h1.symm.trans S.b1; simp [Rx.row] at h2
 have hn3 : gt ≠ w.heap.size + 1 + 1 := fun e => by have h1 := BT.out; rw [e] at h1; have h2 := h1.symm.trans S.b2; simp [PA] at h2
 replace S := S.far OG (by omega) hn2 hn3 (by omega)
 replace BT := H9 BG
 clear BG OG
 have hk2 : kn = true ∧ er = 0 ∨ kn = false ∧ ¬er = 0 := by
  rw [HK.out]
  by_cases he : er = 0
  · exact .inl ⟨by simp [he], he⟩
  · exact .inr ⟨by simp [he], he⟩
 rcases hk2 with ⟨rfl, rfl⟩ | ⟨rfl, he⟩
 rotate_left
 have he2 : (er == 0) = false := by simpa using he
 all_goals
  go_upto_region 11 with fail
  refine zcw (by assumption) (by assumption) ?_
  exact h _ _ _ S BT.out hgt' FrB.mk
section
variable (rt rc rl time c v d : Int) (w : World)
theorem zmj (t0 : 0 ≤ time) (t1 : time ≤ 4294967295) (d0 : 0 ≤ d) (d1 : d ≤ 65535) (re : Bool) :
 Calls Tryz.prog 97 #[.agg #[.bool false, .int .u32 rt, .int .u8 rc, .int .i64 rl, .bool re], .int .u32 time, .agg #[.int .u8 c, .bool false, .int .u8 v, .int .u16 d]] w (Ev.HearR w (⟨true, time, c, d, false⟩, [⟨c, true, time, 0⟩])) := by
 have H0 := H9 (Ev.HS.start w ⟨false, rt, rc, rl, re⟩ #[.int .u8 c, .bool false, .int .u8 v, .int .u16 d])
 have hbase : w.heap.size + 4 ≤ w.heap.size + 4 := Nat.le_refl _
 go_enter Tryz.func97, Tryz.ntmps97
 go_wp2_with (at_builtin; refine zaj rfl _ _ 78 rfl (w.heap.size + 4) 89 4 16 _ Tryz.underlying78 Ev.info_key rfl (by decide) (none) 0 0 _ rfl H0.out.own [.int .u8 c, .bool true, .int .u32 time, .int .i64 0] rfl (by simp [Value.oneCell']) (by rw [Ev.HS.start_size]; rfl) (by unfold maxLen; omega) (by omega) (by rw [Ev.HS.start_size]; omega) ?_; intro Aw2 cw2 w2 hownw2 hgw2 hltw2; obtain ⟨s0, s1, s2, s3, s4, s5, s6, s7, s8, s9, s10, s11, s12, s13, s14, s15, s16, s17, s18, s19, s20, s21, s22, s23, s24, s25, s26⟩ := H0.out.seen_grown hgw2)
 have hb3 := H0.out.bel_grown hgw2
 go_region
 all_goals go_wp2
 refine bodyPost_ret (v := .tuple #[.agg #[.bool true, .int .u32 time, .int .u8 c, .int .i64 (d), .bool false], .slice Aw2 1 cw2]) ?_ rfl ?_
 · simp [results, Tryz.results97, go_sem, *]
 · have HW := H9 hownw2
   have HV := H9 hb3
   clear hownw2 s0 s1 s2 s3 s4 s5 s6 s7 s8 s9 s10 s11 s12 s13 s14 s15 s16 s17 s18 s19 s20 s21 s22 s23 s24 s25 s26
   refine Ev.HearR.mk rfl ?_ ?_
   · refine Owns.rowsNew (B := w.heap.size) (base := w.heap.size + 4) (e := 89) (n := 1) (c := cw2) ?_ rfl (fun _ => rfl)
     have HX : Owns w2 (w.heap.size + 4) 89 4 (Aw2) 1 cw2 (List.flatMap Ev.Key.row [⟨c, true, time, 0⟩]) := by
      have := HW.out
      simpa [Ev.Key.row] using this
     repeat (first | with_reducible exact HX | with_reducible refine Owns.drew ?_ | ((with_reducible refine Owns.setCell ?_ ?_ _); rotate_left; (intro g hg; have := (HW.out.block g hg).1; simp; omega)))
   · repeat (first | with_reducible exact HV.out | with_reducible refine Below.drew ?_ | ((with_reducible refine Below.setCell ?_ ?_ _); rotate_left; (simp; try omega)))
theorem zmk (t0 : 0 ≤ time) (t1 : time ≤ 4294967295) (d0 : 0 ≤ d) (d1 : d ≤ 65535) (re : Bool) :
 Calls Tryz.prog 97 #[.agg #[.bool false, .int .u32 rt, .int .u8 rc, .int .i64 rl, .bool re], .int .u32 time, .agg #[.int .u8 c, .bool true, .int .u8 v, .int .u16 d]] w (Ev.HearR w (⟨true, time, c, d, true⟩, [⟨c, true, time, 0⟩, ⟨c, false, time, d⟩])) := by
 have H0 := H9 (Ev.HS.start w ⟨false, rt, rc, rl, re⟩ #[.int .u8 c, .bool true, .int .u8 v, .int .u16 d])
 have hbase : w.heap.size + 4 ≤ w.heap.size + 4 := Nat.le_refl _
 go_enter Tryz.func97, Tryz.ntmps97
 go_wp2_with (first | (at_builtin; refine zaj rfl _ _ 78 rfl (w.heap.size + 4) 89 4 16 _ Tryz.underlying78 Ev.info_key rfl (by decide) (none) 0 0 _ rfl H0.out.own [.int .u8 c, .bool true, .int .u32 time, .int .i64 0] rfl (by simp [Value.oneCell']) (by rw [Ev.HS.start_size]; rfl) (by unfold maxLen; omega) (by omega) (by rw [Ev.HS.start_size]; omega) ?_; intro Aw2 cw2 w2 hownw2 hgw2 hltw2; obtain ⟨s0, s1, s2, s3, s4, s5, s6, s7, s8, s9, s10, s11, s12, s13, s14, s15, s16, s17, s18, s19, s20, s21, s22, s23, s24, s25, s26⟩ := H0.out.seen_grown hgw2))
 have H2 := H9 ((H0.out.grown hgw2 hownw2).setR ⟨true, time, c, d, false⟩)
 have hbe := H0.out.bel_grown hgw2
 clear s0 s1 s2 s3 s4 s5 s6 s7 s8 s9 s10 s11 s12 s13 s14 s15 s16 s17 s18 s19 s20 s21 s22 s23 s24 s25 s26
 refine (zec w _ ⟨true, time, c, d, false⟩ #[.int .u8 c, .bool true, .int .u8 v, .int .u16 d] Aw2 1 cw2 _ (by omega) H2.out).mono ?_
 rintro e w3 ⟨rfl, A3, c3, h3⟩
 obtain ⟨s0, s1, s2, s3, s4, s5, s6, s7, s8, s9, s10, s11, s12, s13, s14, s15, s16, s17, s18, s19, s20, s21, s22, s23, s24, s25, s26⟩ := h3.seen
 have hown3 := h3.own
 have hb3 := h3.bel
 clear h3 H2
 go_wp2
 go_region
 all_goals go_wp2
 refine bodyPost_ret (v := .tuple #[.agg #[.bool true, .int .u32 time, .int .u8 c, .int .i64 (d), .bool true], .slice A3 2 c3]) ?_ rfl ?_
 · simp [results, Tryz.results97, go_sem, *]
 · have HW := H9 hown3
   have HV := H9 hb3
   clear hown3 s0 s1 s2 s3 s4 s5 s6 s7 s8 s9 s10 s11 s12 s13 s14 s15 s16 s17 s18 s19 s20 s21 s22 s23 s24 s25 s26
   refine Ev.HearR.mk rfl ?_ ?_
   · refine Owns.rowsNew (B := w.heap.size) (base := w.heap.size + 4) (e := 89) (n := 2) (c := c3) ?_ rfl (fun _ => rfl)
     have HX : Owns w3 (w.heap.size + 4) 89 4 (A3) 2 c3 (List.flatMap Ev.Key.row [⟨c, true, time, 0⟩, ⟨c, false, time, d⟩]) := by
      have := HW.out
      simpa [Ev.Key.row] using this
     repeat (first | with_reducible exact HX | with_reducible refine Owns.drew ?_ | ((with_reducible refine Owns.setCell ?_ ?_ _); rotate_left; (intro g hg; have := (HW.out.block g hg).1; simp; omega)))
   · repeat (first | with_reducible exact HV.out | with_reducible refine Below.drew ?_ | ((with_reducible refine Below.setCell ?_ ?_ _); rotate_left; (simp; try omega)))
theorem zom (t0 : 0 ≤ time) (t1 : time ≤ 4294967295) (d0 : 0 ≤ d) (d1 : d ≤ 65535) (hD1 : 1 ≤ (time - rt) % 4294967296) (hD2 : (time - rt) % 4294967296 < 2147483648) :
 Calls Tryz.prog 97 #[.agg #[.bool true, .int .u32 rt, .int .u8 rc, .int .i64 rl, .bool true], .int .u32 time, .agg #[.int .u8 c, .bool false, .int .u8 v, .int .u16 d]] w (Ev.HearR w (⟨true, time, c, d, false⟩, [⟨c, true, time, 0⟩])) := by
 have H0 := H9 (Ev.HS.start w ⟨true, rt, rc, rl, true⟩ #[.int .u8 c, .bool false, .int .u8 v, .int .u16 d])
 have hbase : w.heap.size + 4 ≤ w.heap.size + 4 := Nat.le_refl _
 go_enter Tryz.func97, Tryz.ntmps97
 go_wp2_with (at_builtin; refine zaj rfl _ _ 78 rfl (w.heap.size + 4) 89 4 16 _ Tryz.underlying78 Ev.info_key rfl (by decide) (none) 0 0 _ rfl H0.out.own [.int .u8 c, .bool true, .int .u32 time, .int .i64 0] rfl (by simp [Value.oneCell']) (by rw [Ev.HS.start_size]; rfl) (by unfold maxLen; omega) (by omega) (by rw [Ev.HS.start_size]; omega) ?_; intro Aw2 cw2 w2 hownw2 hgw2 hltw2; obtain ⟨s0, s1, s2, s3, s4, s5, s6, s7, s8, s9, s10, s11, s12, s13, s14, s15, s16, s17, s18, s19, s20, s21, s22, s23, s24, s25, s26⟩ := H0.out.seen_grown hgw2)
 have hb3 := H0.out.bel_grown hgw2
 go_region
 all_goals go_wp2
 refine bodyPost_ret (v := .tuple #[.agg #[.bool true, .int .u32 time, .int .u8 c, .int .i64 (d), .bool false], .slice Aw2 1 cw2]) ?_ rfl ?_
 · simp [results, Tryz.results97, go_sem, *]
 · have HW := H9 hownw2
   have HV := H9 hb3
   clear hownw2 s0 s1 s2 s3 s4 s5 s6 s7 s8 s9 s10 s11 s12 s13 s14 s15 s16 s17 s18 s19 s20 s21 s22 s23 s24 s25 s26
   refine Ev.HearR.mk rfl ?_ ?_
   · refine Owns.rowsNew (B := w.heap.size) (base := w.heap.size + 4) (e := 89) (n := 1) (c := cw2) ?_ rfl (fun _ => rfl)
     have HX : Owns w2 (w.heap.size + 4) 89 4 (Aw2) 1 cw2 (List.flatMap Ev.Key.row [⟨c, true, time, 0⟩]) := by
      have := HW.out
      simpa [Ev.Key.row] using this
     repeat (first | with_reducible exact HX | with_reducible refine Owns.drew ?_ | ((with_reducible refine Owns.setCell ?_ ?_ _); rotate_left; (intro g hg; have := (HW.out.block g hg).1; simp; omega)))
   · repeat (first | with_reducible exact HV.out | with_reducible refine Below.drew ?_ | ((with_reducible refine Below.setCell ?_ ?_ _); rotate_left; (simp; try omega)))
theorem zon (t0 : 0 ≤ time) (t1 : time ≤ 4294967295) (d0 : 0 ≤ d) (d1 : d ≤ 65535) (hD1 : 1 ≤ (time - rt) % 4294967296) (hD2 : (time - rt) % 4294967296 < 2147483648) :
 Calls Tryz.prog 97 #[.agg #[.bool true, .int .u32 rt, .int .u8 rc, .int .i64 rl, .bool true], .int .u32 time, .agg #[.int .u8 c, .bool true, .int .u8 v, .int .u16 d]] w (Ev.HearR w (⟨true, time, c, d, true⟩, [⟨c, true, time, 0⟩, ⟨c, false, time, d⟩])) := by
 have H0 := H9 (Ev.HS.start w ⟨true, rt, rc, rl, true⟩ #[.int .u8 c, .bool true, .int .u8 v, .int .u16 d])
 have hbase : w.heap.size + 4 ≤ w.heap.size + 4 := Nat.le_refl _
 go_enter Tryz.func97, Tryz.ntmps97
 go_wp2_with (first | (at_builtin; refine zaj rfl _ _ 78 rfl (w.heap.size + 4) 89 4 16 _ Tryz.underlying78 Ev.info_key rfl (by decide) (none) 0 0 _ rfl H0.out.own [.int .u8 c, .bool true, .int .u32 time, .int .i64 0] rfl (by simp [Value.oneCell']) (by rw [Ev.HS.start_size]; rfl) (by unfold maxLen; omega) (by omega) (by rw [Ev.HS.start_size]; omega) ?_; intro Aw2 cw2 w2 hownw2 hgw2 hltw2; obtain ⟨s0, s1, s2, s3, s4, s5, s6, s7, s8, s9, s10, s11, s12, s13, s14, s15, s16, s17, s18, s19, s20, s21, s22, s23, s24, s25, s26⟩ := H0.out.seen_grown hgw2))
 have H2 := H9 ((H0.out.grown hgw2 hownw2).setR ⟨true, time, c, d, false⟩)
 have hbe := H0.out.bel_grown hgw2
 clear s0 s1 s2 s3 s4 s5 s6 s7 s8 s9 s10 s11 s12 s13 s14 s15 s16 s17 s18 s19 s20 s21 s22 s23 s24 s25 s26
 refine (zec w _ ⟨true, time, c, d, false⟩ #[.int .u8 c, .bool true, .int .u8 v, .int .u16 d] Aw2 1 cw2 _ (by omega) H2.out).mono ?_
 rintro e w3 ⟨rfl, A3, c3, h3⟩
 obtain ⟨s0, s1, s2, s3, s4, s5, s6, s7, s8, s9, s10, s11, s12, s13, s14, s15, s16, s17, s18, s19, s20, s21, s22, s23, s24, s25, s26⟩ := h3.seen
 have hown3 := h3.own
 have hb3 := h3.bel
 clear h3 H2
 go_wp2
 go_region
 all_goals go_wp2
 refine bodyPost_ret (v := .tuple #[.agg #[.bool true, .int .u32 time, .int .u8 c, .int .i64 (d), .bool true], .slice A3 2 c3]) ?_ rfl ?_
 · simp [results, Tryz.results97, go_sem, *]
 · have HW := H9 hown3
   have HV := H9 hb3
   clear hown3 s0 s1 s2 s3 s4 s5 s6 s7 s8 s9 s10 s11 s12 s13 s14 s15 s16 s17 s18 s19 s20 s21 s22 s23 s24 s25 s26
   refine Ev.HearR.mk rfl ?_ ?_
   · refine Owns.rowsNew (B := w.heap.size) (base := w.heap.size + 4) (e := 89) (n := 2) (c := c3) ?_ rfl (fun _ => rfl)
     have HX : Owns w3 (w.heap.size + 4) 89 4 (A3) 2 c3 (List.flatMap Ev.Key.row [⟨c, true, time, 0⟩, ⟨c, false, time, d⟩]) := by
      have := HW.out
      simpa [Ev.Key.row] using this
     repeat (first | with_reducible exact HX | with_reducible refine Owns.drew ?_ | ((with_reducible refine Owns.setCell ?_ ?_ _); rotate_left; (intro g hg; have := (HW.out.block g hg).1; simp; omega)))
   · repeat (first | with_reducible exact HV.out | with_reducible refine Below.drew ?_ | ((with_reducible refine Below.setCell ?_ ?_ _); rotate_left; (simp; try omega)))
theorem zml (t0 : 0 ≤ time) (t1 : time ≤ 4294967295) (d0 : 0 ≤ d) (d1 : d ≤ 65535) (hD1 : 1 ≤ (time - rt) % 4294967296) (hD2 : (time - rt) % 4294967296 < 2147483648) :
 Calls Tryz.prog 97 #[.agg #[.bool true, .int .u32 rt, .int .u8 rc, .int .i64 rl, .bool false], .int .u32 time, .agg #[.int .u8 c, .bool false, .int .u8 v, .int .u16 d]] w (Ev.HearR w (⟨true, time, c, d, false⟩, [⟨rc, false, rt, rl⟩, ⟨c, true, time, 0⟩])) := by
 have H0 := H9 (Ev.HS.start w ⟨true, rt, rc, rl, false⟩ #[.int .u8 c, .bool false, .int .u8 v, .int .u16 d])
 have hbase : w.heap.size + 4 ≤ w.heap.size + 4 := Nat.le_refl _
 go_enter Tryz.func97, Tryz.ntmps97
 go_wp2_with fail
 refine (zec w _ ⟨true, rt, rc, rl, false⟩ #[.int .u8 c, .bool false, .int .u8 v, .int .u16 d] none 0 0 [] (by omega) H0.out).mono ?_
 rintro e w1 ⟨rfl, A1, c1, h1⟩
 obtain ⟨s0, s1, s2, s3, s4, s5, s6, s7, s8, s9, s10, s11, s12, s13, s14, s15, s16, s17, s18, s19, s20, s21, s22, s23, s24, s25, s26⟩ := h1.seen
 have H1 := H9 h1
 have hbase := h1.b3.lt
 clear h1
 go_wp2_with (at_builtin; refine zaj rfl _ _ 78 rfl (w.heap.size + 4) 89 4 16 _ Tryz.underlying78 Ev.info_key rfl (by decide) (A1) 1 c1 _ rfl H1.out.own [.int .u8 c, .bool true, .int .u32 time, .int .i64 0] rfl (by simp [Value.oneCell']) rfl (by unfold maxLen; omega) (by omega) (by omega) ?_; intro Aw2 cw2 w2 hownw2 hgw2 hltw2; obtain ⟨s0, s1, s2, s3, s4, s5, s6, s7, s8, s9, s10, s11, s12, s13, s14, s15, s16, s17, s18, s19, s20, s21, s22, s23, s24, s25, s26⟩ := H1.out.seen_grown hgw2)
 have hb3 := H1.out.bel_grown hgw2
 go_region
 all_goals go_wp2
 refine bodyPost_ret (v := .tuple #[.agg #[.bool true, .int .u32 time, .int .u8 c, .int .i64 (d), .bool false], .slice Aw2 2 cw2]) ?_ rfl ?_
 · simp [results, Tryz.results97, go_sem, *]
 · have HW := H9 hownw2
   have HV := H9 hb3
   clear hownw2 s0 s1 s2 s3 s4 s5 s6 s7 s8 s9 s10 s11 s12 s13 s14 s15 s16 s17 s18 s19 s20 s21 s22 s23 s24 s25 s26
   refine Ev.HearR.mk rfl ?_ ?_
   · refine Owns.rowsNew (B := w.heap.size) (base := w.heap.size + 4) (e := 89) (n := 2) (c := cw2) ?_ rfl (fun _ => rfl)
     have HX : Owns w2 (w.heap.size + 4) 89 4 (Aw2) 2 cw2 (List.flatMap Ev.Key.row [⟨rc, false, rt, rl⟩, ⟨c, true, time, 0⟩]) := by
      have := HW.out
      simpa [Ev.Key.row] using this
     repeat (first | with_reducible exact HX | with_reducible refine Owns.drew ?_ | ((with_reducible refine Owns.setCell ?_ ?_ _); rotate_left; (intro g hg; have := (HW.out.block g hg).1; simp; omega)))
   · repeat (first | with_reducible exact HV.out | with_reducible refine Below.drew ?_ | ((with_reducible refine Below.setCell ?_ ?_ _); rotate_left; (simp; try omega)))
theorem zmm (t0 : 0 ≤ time) (t1 : time ≤ 4294967295) (d0 : 0 ≤ d) (d1 : d ≤ 65535) (hD1 : 1 ≤ (time - rt) % 4294967296) (hD2 : (time - rt) % 4294967296 < 2147483648) :
 Calls Tryz.prog 97 #[.agg #[.bool true, .int .u32 rt, .int .u8 rc, .int .i64 rl, .bool false], .int .u32 time, .agg #[.int .u8 c, .bool true, .int .u8 v, .int .u16 d]] w (Ev.HearR w (⟨true, time, c, d, true⟩, [⟨rc, false, rt, rl⟩, ⟨c, true, time, 0⟩, ⟨c, false, time, d⟩])) := by
 have H0 := H9 (Ev.HS.start w ⟨true, rt, rc, rl, false⟩ #[.int .u8 c, .bool true, .int .u8 v, .int .u16 d])
 have hbase : w.heap.size + 4 ≤ w.heap.size + 4 := Nat.le_refl _
 go_enter Tryz.func97, Tryz.ntmps97
 go_wp2_with fail
 refine (zec w _ ⟨true, rt, rc, rl, false⟩ #[.int .u8 c, .bool true, .int .u8 v, .int .u16 d] none 0 0 [] (by omega) H0.out).mono ?_
 rintro e w1 ⟨rfl, A1, c1, h1⟩
 obtain ⟨s0, s1, s2, s3, s4, s5, s6, s7, s8, s9, s10, s11, s12, s13, s14, s15, s16, s17, s18, s19, s20, s21, s22, s23, s24, s25, s26⟩ := h1.seen
 have H1 := H9 h1
 have hbase := h1.b3.lt
 clear h1
 go_wp2_with (first | (at_builtin; refine zaj rfl _ _ 78 rfl (w.heap.size + 4) 89 4 16 _ Tryz.underlying78 Ev.info_key rfl (by decide) (A1) 1 c1 _ rfl H1.out.own [.int .u8 c, .bool true, .int .u32 time, .int .i64 0] rfl (by simp [Value.oneCell']) rfl (by unfold maxLen; omega) (by omega) (by omega) ?_; intro Aw2 cw2 w2 hownw2 hgw2 hltw2; obtain ⟨s0, s1, s2, s3, s4, s5, s6, s7, s8, s9, s10, s11, s12, s13, s14, s15, s16, s17, s18, s19, s20, s21, s22, s23, s24, s25, s26⟩ := H1.out.seen_grown hgw2))
 have H2 := H9 ((H1.out.grown hgw2 hownw2).setR ⟨true, time, c, d, false⟩)
 have hbe := H1.out.bel_grown hgw2
 clear s0 s1 s2 s3 s4 s5 s6 s7 s8 s9 s10 s11 s12 s13 s14 s15 s16 s17 s18 s19 s20 s21 s22 s23 s24 s25 s26
 refine (zec w _ ⟨true, time, c, d, false⟩ #[.int .u8 c, .bool true, .int .u8 v, .int .u16 d] Aw2 2 cw2 _ (by omega) H2.out).mono ?_
 rintro e w3 ⟨rfl, A3, c3, h3⟩
 obtain ⟨s0, s1, s2, s3, s4, s5, s6, s7, s8, s9, s10, s11, s12, s13, s14, s15, s16, s17, s18, s19, s20, s21, s22, s23, s24, s25, s26⟩ := h3.seen
 have hown3 := h3.own
 have hb3 := h3.bel
 clear h3 H2
 go_wp2
 go_region
 all_goals go_wp2
 refine bodyPost_ret (v := .tuple #[.agg #[.bool true, .int .u32 time, .int .u8 c, .int .i64 (d), .bool true], .slice A3 3 c3]) ?_ rfl ?_
 · simp [results, Tryz.results97, go_sem, *]
 · have HW := H9 hown3
   have HV := H9 hb3
   clear hown3 s0 s1 s2 s3 s4 s5 s6 s7 s8 s9 s10 s11 s12 s13 s14 s15 s16 s17 s18 s19 s20 s21 s22 s23 s24 s25 s26
   refine Ev.HearR.mk rfl ?_ ?_
   · refine Owns.rowsNew (B := w.heap.size) (base := w.heap.size + 4) (e := 89) (n := 3) (c := c3) ?_ rfl (fun _ => rfl)
     have HX : Owns w3 (w.heap.size + 4) 89 4 (A3) 3 c3 (List.flatMap Ev.Key.row [⟨rc, false, rt, rl⟩, ⟨c, true, time, 0⟩, ⟨c, false, time, d⟩]) := by
      have := HW.out
      simpa [Ev.Key.row] using this
     repeat (first | with_reducible exact HX | with_reducible refine Owns.drew ?_ | ((with_reducible refine Owns.setCell ?_ ?_ _); rotate_left; (intro g hg; have := (HW.out.block g hg).1; simp; omega)))
   · repeat (first | with_reducible exact HV.out | with_reducible refine Below.drew ?_ | ((with_reducible refine Below.setCell ?_ ?_ _); rotate_left; (simp; try omega)))
end
section
variable (rt rc rl time c v d : Int) (w : World)
theorem zjv  (t0 : 0 ≤ time) (t1 : time ≤ 4294967295) (d0 : 0 ≤ d) (d1 : d ≤ 65535) (l0 : -9223372036854775808 ≤ rl) (l1 : rl ≤ 9223372036854775807) (hD : (time - rt) % 4294967296 = 0) :
 Calls Tryz.prog 97 #[.agg #[.bool true, .int .u32 rt, .int .u8 c, .int .i64 rl, .bool false], .int .u32 time, .agg #[.int .u8 c, .bool false, .int .u8 v, .int .u16 d]] w (Ev.HearR w (⟨true, rt, c, max rl d, false⟩, [])) := by
 go_enter Tryz.func97, Tryz.ntmps97
 go_wp2
 go_region
 all_goals go_wp2
 refine bodyPost_ret (v := .tuple #[.agg #[.bool true, .int .u32 rt, .int .u8 c, .int .i64 (max rl d), .bool false], .slice none 0 0]) ?_ rfl ?_
 · simp [results, Tryz.results97, go_sem]
 · refine Ev.HearR.mk rfl RowsNew.nil ?_
   repeat (first | exact Below.refl _ _ | refine Below.drew ?_ | refine Below.setCell ?_ (by simp) _ | refine Below.alloc ?_ (by simp; try omega) _)
theorem zjw  (t0 : 0 ≤ time) (t1 : time ≤ 4294967295) (d0 : 0 ≤ d) (d1 : d ≤ 65535) (l0 : -9223372036854775808 ≤ rl) (l1 : rl ≤ 9223372036854775807) (hD : (time - rt) % 4294967296 = 0) :
 Calls Tryz.prog 97 #[.agg #[.bool true, .int .u32 rt, .int .u8 c, .int .i64 rl, .bool false], .int .u32 time, .agg #[.int .u8 c, .bool true, .int .u8 v, .int .u16 d]] w (Ev.HearR w (⟨true, rt, c, max rl d, true⟩, [⟨c, false, rt, max rl d⟩])) := by
 have H0 := H9 (Ev.HS.start w ⟨true, rt, c, max rl d, false⟩ #[.int .u8 c, .bool true, .int .u8 v, .int .u16 d])
 go_enter Tryz.func97, Tryz.ntmps97
 go_wp2_with fail
 refine (zec w _ ⟨true, rt, c, max rl d, false⟩ #[.int .u8 c, .bool true, .int .u8 v, .int .u16 d] none 0 0 [] (by omega) H0.out).mono ?_
 rintro e w3 ⟨rfl, A3, c3, h3⟩
 obtain ⟨s0, s1, s2, s3, s4, s5, s6, s7, s8, s9, s10, s11, s12, s13, s14, s15, s16, s17, s18, s19, s20, s21, s22, s23, s24, s25, s26⟩ := h3.seen
 have hown3 := h3.own
 have hb3 := h3.bel
 clear h3
 go_wp2
 go_region
 all_goals go_wp2
 refine bodyPost_ret (v := .tuple #[.agg #[.bool true, .int .u32 rt, .int .u8 c, .int .i64 (max rl d), .bool true], .slice A3 1 c3]) ?_ rfl ?_
 · simp [results, Tryz.results97, go_sem, *]
 · have HW := H9 hown3
   have HV := H9 hb3
   clear hown3 s0 s1 s2 s3 s4 s5 s6 s7 s8 s9 s10 s11 s12 s13 s14 s15 s16 s17 s18 s19 s20 s21 s22 s23 s24 s25 s26
   refine Ev.HearR.mk rfl ?_ ?_
   · refine Owns.rowsNew (B := w.heap.size) (base := w.heap.size + 4) (e := 89) (n := 1) (c := c3) ?_ rfl (fun _ => rfl)
     have HX : Owns w3 (w.heap.size + 4) 89 4 (A3) 1 c3 (List.flatMap Ev.Key.row [⟨c, false, rt, max rl d⟩]) := by
      have := HW.out
      simpa [Ev.Key.row] using this
     repeat (first | with_reducible exact HX | with_reducible refine Owns.drew ?_ | ((with_reducible refine Owns.setCell ?_ ?_ _); rotate_left; (intro g hg; have := (HW.out.block g hg).1; simp; omega)))
   · repeat (first | with_reducible exact HV.out | with_reducible refine Below.drew ?_ | ((with_reducible refine Below.setCell ?_ ?_ _); rotate_left; (simp; try omega)))
theorem zoo (re f : Bool)  (t0 : 0 ≤ time) (t1 : time ≤ 4294967295) (d0 : 0 ≤ d) (d1 : d ≤ 65535) (l0 : -9223372036854775808 ≤ rl) (l1 : rl ≤ 9223372036854775807) (hD : 2147483648 ≤ (time - rt) % 4294967296) (hD0 : ((time - rt) % 4294967296 == 0) = false) (hD1 : decide ((time - rt) % 4294967296 < 2147483648) = false) :
 Calls Tryz.prog 97 #[.agg #[.bool true, .int .u32 rt, .int .u8 rc, .int .i64 rl, .bool re], .int .u32 time, .agg #[.int .u8 c, .bool f, .int .u8 v, .int .u16 d]] w (Ev.HearR w (⟨true, rt, rc, rl, re⟩, [])) := by
 go_enter Tryz.func97, Tryz.ntmps97
 go_wp2
 refine bodyPost_ret (v := .tuple #[.agg #[.bool true, .int .u32 rt, .int .u8 rc, .int .i64 (rl), .bool re], .slice none 0 0]) ?_ rfl ?_
 · simp [results, Tryz.results97, go_sem]
 · refine Ev.HearR.mk rfl RowsNew.nil ?_
   repeat (first | exact Below.refl _ _ | refine Below.drew ?_ | refine Below.setCell ?_ (by simp) _ | refine Below.alloc ?_ (by simp; try omega) _)
theorem zmn (re f : Bool)  (t0 : 0 ≤ time) (t1 : time ≤ 4294967295) (d0 : 0 ≤ d) (d1 : d ≤ 65535) (l0 : -9223372036854775808 ≤ rl) (l1 : rl ≤ 9223372036854775807) (hD : (time - rt) % 4294967296 = 0) (hc : (c == rc) = false) :
 Calls Tryz.prog 97 #[.agg #[.bool true, .int .u32 rt, .int .u8 rc, .int .i64 rl, .bool re], .int .u32 time, .agg #[.int .u8 c, .bool f, .int .u8 v, .int .u16 d]] w (Ev.HearR w (⟨true, rt, rc, rl, re⟩, [])) := by
 go_enter Tryz.func97, Tryz.ntmps97
 go_wp2
 refine bodyPost_ret (v := .tuple #[.agg #[.bool true, .int .u32 rt, .int .u8 rc, .int .i64 (rl), .bool re], .slice none 0 0]) ?_ rfl ?_
 · simp [results, Tryz.results97, go_sem]
 · refine Ev.HearR.mk rfl RowsNew.nil ?_
   repeat (first | exact Below.refl _ _ | refine Below.drew ?_ | refine Below.setCell ?_ (by simp) _ | refine Below.alloc ?_ (by simp; try omega) _)
theorem zop (f : Bool)  (t0 : 0 ≤ time) (t1 : time ≤ 4294967295) (d0 : 0 ≤ d) (d1 : d ≤ 65535) (l0 : -9223372036854775808 ≤ rl) (l1 : rl ≤ 9223372036854775807) (hD : (time - rt) % 4294967296 = 0) :
 Calls Tryz.prog 97 #[.agg #[.bool true, .int .u32 rt, .int .u8 c, .int .i64 rl, .bool true], .int .u32 time, .agg #[.int .u8 c, .bool f, .int .u8 v, .int .u16 d]] w (Ev.HearR w (⟨true, rt, c, rl, true⟩, [])) := by
 go_enter Tryz.func97, Tryz.ntmps97
 go_wp2
 refine bodyPost_ret (v := .tuple #[.agg #[.bool true, .int .u32 rt, .int .u8 c, .int .i64 (rl), .bool true], .slice none 0 0]) ?_ rfl ?_
 · simp [results, Tryz.results97, go_sem]
 · refine Ev.HearR.mk rfl RowsNew.nil ?_
   repeat (first | exact Below.refl _ _ | refine Below.drew ?_ | refine Below.setCell ?_ (by simp) _ | refine Below.alloc ?_ (by simp; try omega) _)
end
structure Ev.RS (w0 w : World) (r : Ev.Rcv) (t : Array Value) (A : Option Addr) (n c : Nat) (xs : List Value) : Prop where
 b0 : Blk w w0.heap.size 46 #[.bool r.on, .int .u32 r.time, .int .u8 r.code, .int .i64 r.len, .bool r.ended]
 b1 : Blk w (w0.heap.size + 1) 108 t
 b2 : Blk w (w0.heap.size + 1 + 1) 46 #[.bool false, .int .u32 0, .int .u8 0, .int .i64 0, .bool false]
 own : Owns w (w0.heap.size + 3) 89 4 A n c xs
 bel : Below w0.heap.size w0 w
theorem Ev.RS.grown {w0 w w' : World} {r : Ev.Rcv} {t : Array Value} {A : Option Addr} {n c : Nat} {xs : List Value} (h : Ev.RS w0 w r t A n c xs) (hg : w.grownBy w' (ownB A)) {A' : Option Addr} {n' c' : Nat} {xs' : List Value}
 (ho : Owns w' (w0.heap.size + 3) 89 4 A' n' c' xs') : Ev.RS w0 w' r t A' n' c' xs' := by
 have hne : ∀ g, g < w0.heap.size + 3 → some g ≠ ownB A := fun g hg' he => by have := (h.own.block g he.symm).1; omega
 exact ⟨h.b0.grown hg (hne _ (by omega)), h.b1.grown hg (hne _ (by omega)), h.b2.grown hg (hne _ (by omega)), ho, h.bel.grown hg h.bel.size (fun g he => by have := (h.own.block g he).1; omega)⟩
def Ev.RS.Seen (w0 w : World) (r : Ev.Rcv) (c : Int) (f : Bool) (v d : Int) : Prop :=
 w.cell? ⟨w0.heap.size, 0, none⟩ = some (.bool r.on) ∧ w.cell? ⟨w0.heap.size, 1, none⟩ = some (.int .u32 r.time) ∧ w.cell? ⟨w0.heap.size, 2, none⟩ = some (.int .u8 r.code) ∧ w.cell? ⟨w0.heap.size, 3, none⟩ = some (.int .i64 r.len) ∧ w.cell? ⟨w0.heap.size, 4, none⟩ = some (.bool r.ended) ∧ w.cell? ⟨w0.heap.size + 1, 0, none⟩ = some (.int .u8 c) ∧ w.cell? ⟨w0.heap.size + 1, 1, none⟩ = some (.bool f) ∧ w.cell? ⟨w0.heap.size + 1, 2, none⟩ = some (.int .u8 v) ∧ w.cell? ⟨w0.heap.size + 1, 3, none⟩ = some (.int .u16 d) ∧ w.cell? ⟨w0.heap.size + 1 + 1, 0, none⟩ = some (.bool false) ∧ w.frozen? ⟨w0.heap.size + 1 + 1, 0, none⟩ = false ∧ w.cell? ⟨w0.heap.size + 1 + 1, 1, none⟩ = some (.int .u32 0) ∧ w.frozen? ⟨w0.heap.size + 1 + 1, 1, none⟩ = false ∧ w.cell? ⟨w0.heap.size + 1 + 1, 2, none⟩ = some (.int .u8 0) ∧ w.frozen? ⟨w0.heap.size + 1 + 1, 2, none⟩ = false ∧ w.cell? ⟨w0.heap.size + 1 + 1, 3, none⟩ = some (.int .i64 0) ∧ w.frozen? ⟨w0.heap.size + 1 + 1, 3, none⟩ = false ∧ w.cell? ⟨w0.heap.size + 1 + 1, 4, none⟩ = some (.bool false) ∧ w.frozen? ⟨w0.heap.size + 1 + 1, 4, none⟩ = false ∧ w0.heap.size + 3 ≤ w.heap.size
theorem Ev.RS.seen {w0 w : World} {r : Ev.Rcv} {c : Int} {f : Bool} {v d : Int} {A : Option Addr} {n k : Nat} {xs : List Value} (h : Ev.RS w0 w r #[.int .u8 c, .bool f, .int .u8 v, .int .u16 d] A n k xs) : Ev.RS.Seen w0 w r c f v d :=
 ⟨h.b0.at 0 _ rfl, h.b0.at 1 _ rfl, h.b0.at 2 _ rfl, h.b0.at 3 _ rfl, h.b0.at 4 _ rfl, h.b1.at 0 _ rfl, h.b1.at 1 _ rfl, h.b1.at 2 _ rfl, h.b1.at 3 _ rfl, h.b2.at 0 _ rfl, h.b2.frozen 0, h.b2.at 1 _ rfl, h.b2.frozen 1, h.b2.at 2 _ rfl, h.b2.frozen 2, h.b2.at 3 _ rfl, h.b2.frozen 3, h.b2.at 4 _ rfl, h.b2.frozen 4, by have := h.b2.lt; omega⟩
theorem Ev.RS.start (w : World) (r : Ev.Rcv) (t : Array Value) : Ev.RS w (((w.alloc (.cells #[.bool r.on, .int .u32 r.time, .int .u8 r.code, .int .i64 r.len, .bool r.ended] 46)).alloc (.cells t 108)).alloc (.cells #[.bool false, .int .u32 0, .int .u8 0, .int .i64 0, .bool false] 46)) r t none 0 0 [] :=
 ⟨((Blk.new w _ _).push _).push _, (Blk.new1 w _ _ _).push _, Blk.new2 w _ _ _ _, Owns.nil, (((Bel.refl w).push _).push _).push _⟩
theorem Ev.RS.start_size (w : World) (r : Ev.Rcv) (t : Array Value) : (((w.alloc (.cells #[.bool r.on, .int .u32 r.time, .int .u8 r.code, .int .i64 r.len, .bool r.ended] 46)).alloc (.cells t 108)).alloc (.cells #[.bool false, .int .u32 0, .int .u8 0, .int .i64 0, .bool false] 46)).heap.size = w.heap.size + 1 + 1 + 1 := by simp
section
variable (rt rc rl time c v d : Int) (w : World)
end
end Go.Proofs.YtahbecinkciahaaGreat
namespace Go.Proofs.YtahbecinkciahaaGreat
open Go.RowKit
section
variable (on : Bool) (rt rc rl : Int) (re : Bool) (time c : Int) (f : Bool) (v d : Int) (w : World)
theorem Ev.hear_off : Ev.hear ⟨false, rt, rc, rl, re⟩ time ⟨c, f, v, d⟩ = (⟨true, time, c, d, f⟩, [⟨c, true, time, 0⟩] ++ (if f = true then [⟨c, false, time, d⟩] else [])) := by simp [Ev.hear]
theorem Ev.hear_on (h1 : 1 ≤ (time - rt) % 4294967296) (h2 : (time - rt) % 4294967296 < 2147483648) : Ev.hear ⟨true, rt, rc, rl, true⟩ time ⟨c, f, v, d⟩ = (⟨true, time, c, d, f⟩, [⟨c, true, time, 0⟩] ++ (if f = true then [⟨c, false, time, d⟩] else [])) := by simp [Ev.hear, h1, h2]
theorem Ev.hear_pre (h1 : 1 ≤ (time - rt) % 4294967296) (h2 : (time - rt) % 4294967296 < 2147483648) : Ev.hear ⟨true, rt, rc, rl, false⟩ time ⟨c, f, v, d⟩ = (⟨true, time, c, d, f⟩, [⟨rc, false, rt, rl⟩, ⟨c, true, time, 0⟩] ++ (if f = true then [⟨c, false, time, d⟩] else [])) := by simp [Ev.hear, h1, h2]
theorem Ev.hear_same (h : (time - rt) % 4294967296 = 0) : Ev.hear ⟨true, rt, c, rl, false⟩ time ⟨c, f, v, d⟩ = (⟨true, rt, c, max rl d, f⟩, if f = true then [⟨c, false, rt, max rl d⟩] else []) := by simp [Ev.hear, h]
theorem Ev.hear_none (h1 : ¬(1 ≤ (time - rt) % 4294967296 ∧ (time - rt) % 4294967296 < 2147483648)) (h2 : ¬((time - rt) % 4294967296 = 0 ∧ c = rc ∧ re = false)) : Ev.hear ⟨true, rt, rc, rl, re⟩ time ⟨c, f, v, d⟩ = (⟨true, rt, rc, rl, re⟩, []) := by
 unfold Ev.hear
 rw [if_neg (by rintro (h | h); cases h; exact h1 h), if_neg h2]
theorem zql (t0 : 0 ≤ time) (t1 : time ≤ 4294967295) (d0 : 0 ≤ d) (d1 : d ≤ 65535) (l0 : -9223372036854775808 ≤ rl) (l1 : rl ≤ 9223372036854775807) :
 Calls Tryz.prog 97 #[.agg #[.bool on, .int .u32 rt, .int .u8 rc, .int .i64 rl, .bool re], .int .u32 time, .agg #[.int .u8 c, .bool f, .int .u8 v, .int .u16 d]] w (Ev.HearR w (Ev.hear ⟨on, rt, rc, rl, re⟩ time ⟨c, f, v, d⟩)) := by
 cases on
 · rw [Ev.hear_off]
   cases f
   · exact zmj rt rc rl time c v d w t0 t1 d0 d1 re
   · exact zmk rt rc rl time c v d w t0 t1 d0 d1 re
 · by_cases h1 : 1 ≤ (time - rt) % 4294967296 ∧ (time - rt) % 4294967296 < 2147483648
   · obtain ⟨h1, h2⟩ := h1
     cases re
     · rw [Ev.hear_pre rt rc rl time c f v d h1 h2]
       cases f
       · exact zml rt rc rl time c v d w t0 t1 d0 d1 h1 h2
       · exact zmm rt rc rl time c v d w t0 t1 d0 d1 h1 h2
     · rw [Ev.hear_on rt rc rl time c f v d h1 h2]
       cases f
       · exact zom rt rc rl time c v d w t0 t1 d0 d1 h1 h2
       · exact zon rt rc rl time c v d w t0 t1 d0 d1 h1 h2
   · by_cases h2 : (time - rt) % 4294967296 = 0 ∧ c = rc ∧ re = false
     · obtain ⟨h2, rfl, rfl⟩ := h2
       rw [Ev.hear_same rt rl time c f v d h2]
       cases f
       · exact zjv rt rl time c v d w t0 t1 d0 d1 l0 l1 h2
       · exact zjw rt rl time c v d w t0 t1 d0 d1 l0 l1 h2
     · rw [Ev.hear_none rt rc rl re time c f v d h1 h2]
       by_cases h3 : (time - rt) % 4294967296 = 0
       · by_cases h4 : c = rc
         · subst h4
           have : re = true := by
            cases re
            · exact absurd ⟨h3, rfl, rfl⟩ h2
            · rfl
           subst this
           exact zop rt rl time c v d w f t0 t1 d0 d1 l0 l1 h3
         · exact zmn rt rc rl time c v d w re f t0 t1 d0 d1 l0 l1 h3 (by simpa using h4)
       · exact zoo rt rc rl time c v d w re f t0 t1 d0 d1 l0 l1 (by omega) (by simpa using h3) (by simp; omega)
end
theorem RowsAt.key {w : World} {B : Nat} {b off : Nat} {l : List Ev.Key} (h : ∀ (i : Nat) (a : Ev.Key), l[i]? = some a → ∀ (j : Nat) (v : Value), (Ev.Key.row a)[j]? = some v → w.cell? ⟨b, off + i * 4 + j, none⟩ = some v) {k : Nat} {a : Ev.Key} (ha : l[k]? = some a) :
 w.cell? ⟨b, off + k * 4, none⟩ = some (.int .u8 a.code) ∧ w.cell? ⟨b, off + k * 4 + 1, none⟩ = some (.bool a.down) ∧ w.cell? ⟨b, off + k * 4 + 2, none⟩ = some (.int .u32 a.time) ∧ w.cell? ⟨b, off + k * 4 + 3, none⟩ = some (.int .i64 a.len) :=
 ⟨h k a ha 0 _ rfl, h k a ha 1 _ rfl, h k a ha 2 _ rfl, h k a ha 3 _ rfl⟩
end Go.Proofs.YtahbecinkciahaaGreat
namespace Go.Proofs.YtahbecinkciahaaGreat
attribute [local go_sem ↓] zab zac
attribute [local go_sem] zaa zad
open Go.RowKit
def RecvK (R : Sb.Pt × Int × List Sb.Sd × Int) (w : World) (e : Ending) (w' : World) : Prop :=
 ∃ (A' : Option Addr) (n' c' : Nat) (l' : List TW) (SA : Option Addr) (sc m : Nat) (ks : List TY), e = .returned (.tuple #[.agg (PA R.1 A' n' c'), .int .u8 R.2.1, .slice SA m sc, .int .u8 R.2.2.2]) ∧ l'.map TW.w = R.1.jt.q ∧ l'.length = n' ∧ n' ≤ c' ∧ c' ≤ maxLen ∧ WtsIn w' w.heap.size w'.heap.size A' l' ∧ ks.map TY.s = R.2.2.1 ∧ ks.length = m ∧ Sks w' w.heap.size SA ks ∧ Below w.heap.size w w'
theorem Ev.Key.rowlen (a : Ev.Key) : (Ev.Key.row a).length = 4 := rfl
theorem zft (p : Sb.Pt) (hw : p.wf) (A : Option Addr) (l : List TW) (n c : Nat) (X : Array Value) (hX : X = PA p A n c) (w : World) (hq : l.map TW.w = p.jt.q) (hn : l.length = n) (hl : n ≤ 100000) (hcap : n ≤ c) (hcm : c ≤ maxLen) (hA : Wts w w.heap.size A l) (hK : ∀ a ∈ l, I64 a.w.m.sq) (now time c0 v0 d0 : Int) (f0 : Bool) (t0 : 0 ≤ time) (t1 : time ≤ 4294967295) (d1 : 0 ≤ d0) (d2 : d0 ≤ 65535) (l0 : -9223372036854775808 ≤ p.hd.len) (l1 : p.hd.len ≤ 9223372036854775807) (he : (Jb.run p.jt now).2.2 = 0) (hO : ∀ a ∈ (Jb.run p.jt now).2.1, OkW a) (hm : (Jb.run p.jt now).2.1.length ≤ 99999) :
 Calls Tryz.prog 43 #[.agg X, .int .i64 now, .int .u32 time, .agg #[.int .u8 c0, .bool f0, .int .u8 v0, .int .u16 d0]] w (RecvK ({ (Sb.run p now).1 with hd := (Ev.hear p.hd time ⟨c0, f0, v0, d0⟩).1 }, 1, (Sb.run p now).2 ++ (if (Ev.hear p.hd time ⟨c0, f0, v0, d0⟩).2 = [] then [] else [⟨now, [], (Ev.hear p.hd time ⟨c0, f0, v0, d0⟩).2⟩]), 0) w) := by
 have B0 := H9 (((PB.new w X hX).push (.cells #[.int .u8 c0, .bool f0, .int .u8 v0, .int .u16 d0] 108)).push (.cells (PA Sb.Pt.zero none 0 0) 48))
 have BT := H9 ((Blk.new1 w (.cells X 48) 108 #[.int .u8 c0, .bool f0, .int .u8 v0, .int .u16 d0]).push (.cells (PA Sb.Pt.zero none 0 0) 48))
 have BR := H9 (Blk.new2 w (.cells X 48) (.cells #[.int .u8 c0, .bool f0, .int .u8 v0, .int .u16 d0] 108) 48 (PA Sb.Pt.zero none 0 0))
 have U0 := H9 ((((Bel.refl w).push (.cells X 48)).push (.cells #[.int .u8 c0, .bool f0, .int .u8 v0, .int .u16 d0] 108)).push (.cells (PA Sb.Pt.zero none 0 0) 48))
 have HA := H9 (((hA.push (.cells X 48)).push (.cells #[.int .u8 c0, .bool f0, .int .u8 v0, .int .u16 d0] 108)).push (.cells (PA Sb.Pt.zero none 0 0) 48))
 have k1 := H9 fun (W : World) hW => zcs p hw A l n c (PA p A n c) rfl W hq hn hl hcap hcm hW hK now 1 he hO (Nat.le_trans hm (by decide))
 unfold PlayR at k1
 have k2 : ∀ W, Calls Tryz.prog 97 #[.agg #[.bool p.hd.on, .int .u32 p.hd.time, .int .u8 p.hd.code, .int .i64 p.hd.len, .bool p.hd.ended], .int .u32 time, .agg #[.int .u8 c0, .bool f0, .int .u8 v0, .int .u16 d0]] W (Ev.HearR W (Ev.hear p.hd time ⟨c0, f0, v0, d0⟩)) := fun W => zql p.hd.on p.hd.time p.hd.code p.hd.len p.hd.ended time c0 f0 v0 d0 W t0 t1 d1 d2 l0 l1
 have hnk : ∀ a ∈ (Sb.run p now).2, a.ks = [] := fun a ha => zcg _ _ a ha
 have hsl : (Sb.run p now).2.length ≤ 99999 := by
  have h : ∀ (l : List Jb.Wt) (s : Int), (Sb.sounds s l).2.length = l.length := fun l => by
   induction l with
   | nil => intro s; rfl
   | cons a l ih => intro s; show (_ :: _).length = _; rw [List.length_cons, ih, List.length_cons]
  show (Sb.sounds _ _).2.length ≤ _
  rw [h]; exact hm
 have hqd : (Sb.run p now).1.hd = p.hd := rfl
 generalize hHK : Ev.hear p.hd time ⟨c0, f0, v0, d0⟩ = HK at k2 ⊢
 clear hHK
 obtain ⟨H, ks⟩ := HK
 unfold Ev.HearR at k2
 rw [zol H] at k2
 simp only at k2 ⊢
 generalize Sb.run p now = R at *
 obtain ⟨q, R2⟩ := R
 simp only at k1 hnk hsl hqd ⊢
 rw [← hqd] at k2
 replace k2 := H9 k2
 have HNK := H9 hnk
 obtain ⟨more, hmore⟩ : ∃ m : List Sb.Sd, m = if ks = [] then [] else [⟨now, [], ks⟩] := ⟨_, rfl⟩
 rw [← hmore]
 have HM := H9 hmore
 clear hmore
 clear hX hA hK hq he hO hm hw hnk hqd l0 l1 hcap hcm
 go_enter Tryz.func43, Tryz.ntmps43
 go_upto_region 1 with fail
 change Code.wp _ _ _ _ (((w.alloc (Obj.cells X 48)).alloc (Obj.cells #[.int .u8 c0, .bool f0, .int .u8 v0, .int .u16 d0] 108)).alloc (Obj.cells (PA Sb.Pt.zero none 0 0) 48))
 obtain ⟨W, hW⟩ : ∃ W, W = ((w.alloc (Obj.cells X 48)).alloc (Obj.cells #[.int .u8 c0, .bool f0, .int .u8 v0, .int .u16 d0] 108)).alloc (Obj.cells (PA Sb.Pt.zero none 0 0) 48) := ⟨_, rfl⟩
 rw [← hW] at B0 BT BR U0 HA ⊢
 clear hW
 go_wp2_with (first | (refine zae rfl 48 (.tmp 4) rfl (w.heap.size) 0 rfl 48 (PL p A n c) B0.out 48 _ Tryz.underlying48 zag (show 0 + 48 ≤ 48 by decide) (PA p A n c) (by rfl) rfl ?_) | fail)
 refine (k1.out _ HA.out).mono ?_
 rintro e w2 ⟨A2, n2, c2, l2, SA, sc, m, ls, base, mid, rfl, e1, e2, e3, e4, e5, em1, em2, e6, e7, e8, hb2⟩
 have hus := U0.out.size
 have hW1 := BR.out.lt
 have hAm : Hid (∀ g, ownB SA = some g → mid ≤ g) := H9 fun g e => Nat.le_trans em1 (e8.own.block g e).1
 replace e8 := e8.lower e7
 clear e7
 have hs2 := hb2.size
 replace U0 := H9 (U0.out.later hb2)
 replace B0 := H9 (PB.later B0.out hb2)
 replace BT := H9 (BT.out.later hb2)
 replace BR := H9 (BR.out.later hb2)
 have hLS : ls.length = m := e8.len
 have hNK : Hid (∀ a ∈ ls, a.s.ks = []) := H9 fun a ha => HNK.out a.s (by rw [← e6]; exact List.mem_map_of_mem ha)
 have hml : m ≤ 99999 := by rw [← hLS]; have := congrArg List.length e6; simp at this; omega
 have HE1 := H9 e1
 have HE2 := H9 e2
 have HE5 := H9 e5
 have HE6 := H9 e6
 have HE8 := H9 e8
 have HLS := H9 hLS
 clear hb2 HA e1 e2 e5 e6 e8 k1 HNK hsl hLS
 go_upto_region 2 with (first | (refine zaf rfl 48 (.tmp 4) (.tmp 21) rfl (w.heap.size) 0 rfl 48 (PL p A n c) B0.out (PL q A2 n2 c2) rfl zag (show 0 + 48 ≤ 48 by decide) rfl (PL q A2 n2 c2) rfl ?_; intro WG BG OG) | fail)
 replace U0 := H9 (OG.bel U0.out (Nat.le_refl _))
 replace BT := H9 (OG.blk BT.out (by omega))
 replace BR := H9 (OG.blk BR.out (by omega))
 replace HE5 := H9 (HE5.out.only OG (by omega))
 replace HE8 := H9 (HE8.out.only OG (by omega))
 have hGs : mid ≤ WG.heap.size := by rw [OG.2]; exact em2
 replace B0 := H9 BG
 have hWG : W.heap.size ≤ WG.heap.size := by rw [OG.2]; exact hs2
 clear BG OG em2
 go_upto_region 4 with fail
 go_wp2_with (first | (refine zae rfl 46 (.tmp 32) rfl (w.heap.size) 40 rfl 48 (PL q A2 n2 c2) B0.out 5 _ Tryz.underlying46 zgk (show 40 + 5 ≤ 48 by decide) (#[.bool q.hd.on, .int .u32 q.hd.time, .int .u8 q.hd.code, .int .i64 q.hd.len, .bool q.hd.ended]) (by rfl) rfl ?_) | (refine zae rfl 108 (.tmp 7) rfl (w.heap.size + 1) 0 rfl 108 ([.int .u8 c0, .bool f0, .int .u8 v0, .int .u16 d0]) BT.out 4 _ Tryz.underlying108 zed (show 0 + 4 ≤ 4 by decide) (#[.int .u8 c0, .bool f0, .int .u8 v0, .int .u16 d0]) (by rfl) rfl ?_) | fail)
 refine (k2.out _).mono ?_
 rintro e w3 ⟨KA, kc, rfl, hkr, hb3⟩
 have hs3 := hb3.size
 have hWGl := BR.out.lt
 replace U0 := H9 (U0.out.later hb3)
 replace B0 := H9 (PB.later B0.out hb3)
 replace BR := H9 (BR.out.later hb3)
 replace HE5 := H9 (HE5.out.below hb3 hGs)
 have hAo : Hid (∀ g, ownB SA = some g → W.heap.size ≤ g ∧ g < WG.heap.size) := H9 fun g e => HE8.out.own.block g e
 replace HE8 := H9 (HE8.out.below hb3)
 have HKR := H9 hkr
 clear hkr hb3 k2 BT
 have BH := H9 (Blk.new w3 46 #[.bool H.on, .int .u32 H.time, .int .u8 H.code, .int .i64 H.len, .bool H.ended])
 obtain ⟨g3, hg3⟩ : ∃ g, g = w3.heap.size := ⟨_, rfl⟩
 have hg3' : WG.heap.size ≤ g3 := by rw [hg3]; exact hs3
 obtain ⟨W4, hW4⟩ : ∃ W, W = w3.alloc (Obj.cells #[.bool H.on, .int .u32 H.time, .int .u8 H.code, .int .i64 H.len, .bool H.ended] 46) := ⟨_, rfl⟩
 have hb4 : Below w3.heap.size w3 W4 := by rw [hW4]; exact (Below.refl _ _).alloc (Nat.le_refl _) _
 replace U0 := H9 (U0.out.later hb4)
 replace B0 := H9 (PB.later B0.out hb4)
 replace BR := H9 (BR.out.later hb4)
 replace HE5 := H9 (HE5.out.below hb4 (by omega))
 replace HE8 := H9 (HE8.out.below hb4)
 replace HKR := H9 (HKR.out.later hb4)
 have hs4 : WG.heap.size ≤ W4.heap.size := Nat.le_trans hs3 hb4.size
 clear hb4
 rw [← hg3, ← hW4] at BH
 go_upto_region 5 with fail
 rw [← hg3]
 rw [← hW4]
 clear hW4 hg3
 go_upto_region 6 with (first | (refine zae rfl 46 (.tmp 15) rfl (g3) 0 rfl 46 ([.bool H.on, .int .u32 H.time, .int .u8 H.code, .int .i64 H.len, .bool H.ended]) BH.out 5 _ Tryz.underlying46 zgk (show 0 + 5 ≤ 5 by decide) (#[.bool H.on, .int .u32 H.time, .int .u8 H.code, .int .i64 H.len, .bool H.ended]) (by rfl) rfl ?_) | (refine zaf rfl 46 (.tmp 40) (.tmp 39) rfl (w.heap.size) 40 rfl 48 (PL q A2 n2 c2) B0.out ([.bool H.on, .int .u32 H.time, .int .u8 H.code, .int .i64 H.len, .bool H.ended]) rfl zgk (show 40 + 5 ≤ 48 by decide) rfl (PL { q with hd := H } A2 n2 c2) rfl ?_; intro WF BF OF) | fail)
 have hs5 : WG.heap.size ≤ WF.heap.size := by rw [OF.2]; exact hs4
 replace U0 := H9 (OF.bel U0.out (Nat.le_refl _))
 replace BR := H9 (OF.blk BR.out (by omega))
 replace HE5 := H9 (HE5.out.only OF (by omega))
 replace HE8 := H9 (HE8.out.only OF (by omega))
 have HKR2 := H9 (show RowsNew WG.heap.size WF 4 Ev.Key.row KA ks from ⟨fun h0 => by
  obtain ⟨b, off, e, hlt, hc⟩ := HKR.out.1 h0
  have := HKR.out.2 h0 b off e
  exact ⟨b, off, e, by rw [OF.2]; exact hlt, fun i a ha j v hv => (OF.cell (show b ≠ w.heap.size by omega)).trans (hc i a ha j v hv)⟩, HKR.out.2⟩)
 replace B0 := H9 BF
 clear BF OF BH HKR
 obtain ⟨q2, hq2⟩ : ∃ q2 : Sb.Pt, q2 = { q with hd := H } := ⟨_, rfl⟩
 rw [← hq2] at B0
 have HQ2 := H9 hq2
 clear hq2
 by_cases hk0 : ks = []
 · subst hk0
   obtain rfl : more = [] := by rw [HM.out, if_pos rfl]
   rw [List.append_nil]
   have hL0 : ¬(0 : Int) < (([] : List Ev.Key).length : Int) := by simp
   go_upto_region 8 with fail
   go_wp2_with (first | (refine zae rfl 48 (.tmp 4) rfl (w.heap.size) 0 rfl 48 (PL q2 A2 n2 c2) B0.out 48 _ Tryz.underlying48 zag (show 0 + 48 ≤ 48 by decide) (PA q2 A2 n2 c2) (by rfl) rfl ?_) | (refine zaf rfl 48 (.tmp 8) (.tmp 50) rfl (w.heap.size + 1 + 1) 0 rfl 48 (PL Sb.Pt.zero none 0 0) BR.out (PL q2 A2 n2 c2) rfl zag (show 0 + 48 ≤ 48 by decide) rfl (PL q2 A2 n2 c2) rfl ?_; intro WI BI OI) | fail)
   have hIs : mid ≤ WI.heap.size := by rw [OI.2]; omega
   exact bodyPost_ret (v := .tuple #[.agg (PA q2 A2 n2 c2), .int .u8 1, .slice SA m sc, .int .u8 0]) (zav Tryz.results43 rfl (PB.load BI) rfl rfl rfl) rfl ⟨A2, n2, c2, l2, SA, sc, m, ls.map TS.ty, by rw [HQ2.out], HE1.out, HE2.out, e3, e4, ((HE5.out.only OI (by omega)).less (by omega)).more hIs, by rw [ty_s]; exact HE6.out, by rw [List.length_map]; exact HLS.out, ((HE8.out.only OI (by omega)).sks hNK.out).less (by omega), OI.bel U0.out (by omega)⟩
 · obtain rfl : more = [⟨now, [], ks⟩] := by rw [HM.out, if_neg hk0]
   have hL0 : (0 : Int) < (ks.length : Int) := by have : 0 < ks.length := List.length_pos_iff.2 hk0; omega
   have HX := H9 HE8.out.own
   have h5 : (m + 1) * 56 ≤ 140737488355328 := by omega
   have h6 : m + 1 ≤ maxLen := by unfold maxLen; omega
   have hbs5 : W.heap.size ≤ WF.heap.size := by omega
   have hL1 : 0 < ks.length := List.length_pos_iff.2 hk0
   have hL2' : ¬ks.length = 0 := by omega
   go_upto_region 8 with (at_builtin; go_loud (refine zax (w0 := WF) rfl _ _ 54 rfl W.heap.size 86 3 56 _ Tryz.underlying54 zcr rfl (by decide) SA m sc _ rfl HX.out [.int .i64 now, .slice none 0 0, .slice KA ks.length kc] rfl (by simp [Value.oneCell']) rfl h6 h5 hbs5 ?_); intro A9 c9 v1 qo hgr hat)
   have hAk : ∀ g, ownB SA = some g → W.heap.size ≤ g := fun g e => (hAo.out g e).1
   have HSK := H9 (HE8.out.add (a := ⟨⟨now, [], ks⟩, none, 0, KA, kc⟩) hNK.out hgr qo rfl HKR2.out (fun g e => (hAo.out g e).2) (by omega))
   replace U0 := H9 (show Bel w v1 from Below.grown U0.out hgr U0.out.size fun g e => by have := hAk g e; omega)
   replace BR := H9 (BR.out.grown hgr (fun e => by have := hAk _ e.symm; omega))
   replace B0 := H9 (show PB v1 w.heap.size q2 A2 n2 c2 from Blk.grown B0.out hgr (fun e => by have := hAk _ e.symm; omega))
   replace HE5 := H9 (HE5.out.keep fun p _ h2 => show v1.cell? p = WF.cell? p by unfold World.cell?; rw [hgr.block p.block (by omega) (fun e => by have := hAm.out _ e.symm; omega)])
   have hv1 : WF.heap.size ≤ v1.heap.size := hgr.size
   clear hgr qo hat HX HE8 HKR2
   go_wp2_with (first | (refine zae rfl 48 (.tmp 4) rfl (w.heap.size) 0 rfl 48 (PL q2 A2 n2 c2) B0.out 48 _ Tryz.underlying48 zag (show 0 + 48 ≤ 48 by decide) (PA q2 A2 n2 c2) (by rfl) rfl ?_) | (refine zaf rfl 48 (.tmp 8) (.tmp 50) rfl (w.heap.size + 1 + 1) 0 rfl 48 (PL Sb.Pt.zero none 0 0) BR.out (PL q2 A2 n2 c2) rfl zag (show 0 + 48 ≤ 48 by decide) rfl (PL q2 A2 n2 c2) rfl ?_; intro WI BI OI) | fail)
   have hIs : mid ≤ WI.heap.size := by rw [OI.2]; omega
   exact bodyPost_ret (v := .tuple #[.agg (PA q2 A2 n2 c2), .int .u8 1, .slice A9 (m + 1) c9, .int .u8 0]) (zav Tryz.results43 rfl (PB.load BI) rfl rfl rfl) rfl ⟨A2, n2, c2, l2, A9, c9, m + 1, ls.map TS.ty ++ [⟨⟨now, [], ks⟩, none, 0, KA, kc⟩], by rw [HQ2.out], HE1.out, HE2.out, e3, e4, ((HE5.out.only OI (by omega)).less (by omega)).more hIs, by rw [List.map_append, ty_s, HE6.out]; rfl, by rw [List.length_append, List.length_map, HLS.out]; rfl, (HSK.out.only OI (by omega)).less (by omega), OI.bel U0.out (by omega)⟩
theorem zrn {w W : World} {p : Sb.Pt} {A : Option Addr} {l : List TW} {n c : Nat} {x : Rx} {now : Int} (C : RC w p A l n c x now) (S : RS w W p A n c x) {gt : Nat} (hw : p.wf) (he : (Jb.run p.jt now).2.2 = 0) (hO : ∀ a ∈ (Jb.run p.jt now).2.1, OkW a) (hm : (Jb.run p.jt now).2.1.length ≤ 99999) (a : Act) (ha : FrB w.heap.size now gt false a) : firstWp Tryz.prog rcB_code (bodyPost Tryz.prog Tryz.f11 (RecvK ((Sb.run p now).1, 5, (Sb.run p now).2, 0) w)) a W := by
 obtain ⟨s, rfl, e1, e3, e5, e6, e11, e12, _⟩ := ha
 rw [r164, e1, e3, e5, e6, e11, e12]
 clear e1 e3 e5 e6 e11 e12
 have k1 := H9 fun (W : World) hW => zcs p hw A l n c (PA p A n c) rfl W C.q C.len C.n5 C.cap C.cm hW C.sq now 5 he hO (Nat.le_trans hm (by decide))
 have hnk : ∀ a ∈ (Sb.run p now).2, a.ks = [] := fun a ha => zcg _ _ a ha
 have HA := H9 C.av
 unfold PlayR at k1
 generalize Sb.run p now = R at *
 obtain ⟨q, R2⟩ := R
 simp only at k1 hnk ⊢
 have HNK := H9 hnk
 clear hw he hO hm hnk
 refine zbe ?_
 intro _ _ _ _
 go_wp2_with (first | (refine zae rfl 48 (.tmp 3) rfl (w.heap.size) 0 rfl 48 (PL p A n c) S.b0 48 _ Tryz.underlying48 zag (show 0 + 48 ≤ 48 by decide) (PA p A n c) (by rfl) rfl ?_) | fail)
 refine (k1.out _ (HA.out.later S.u)).mono ?_
 rintro e w2 ⟨A2, n2, c2, l2, SA, sc, m, ls, base, mid, rfl, e1, e2, e3, e4, e5, em1, em2, e6, e7, e8, hb2⟩
 have hL := S.u.size
 have hL2 := S.b2.lt
 replace S := S.later hb2
 have hs2 := hb2.size
 have HE1 := H9 e1
 have HE5 := H9 e5
 have HE6 := H9 e6
 have HE8 := H9 e8
 have HNK2 : Hid (∀ a ∈ ls, a.s.ks = []) := H9 fun a ha => HNK.out a.s (by rw [← e6]; exact List.mem_map_of_mem ha)
 clear hb2 HA e1 e5 e6 e8 k1 HNK
 go_wp2_with (first | (refine zaf rfl 48 (.tmp 6) (.tmp 63) rfl (w.heap.size + 1 + 1) 0 rfl 48 (PL Sb.Pt.zero none 0 0) S.b2 (PL q A2 n2 c2) rfl zag (show 0 + 48 ≤ 48 by decide) rfl (PL q A2 n2 c2) rfl ?_; intro WI BI OI) | fail)
 exact bodyPost_ret (v := .tuple #[.agg (PA q A2 n2 c2), .int .u8 5, .slice SA m sc, .int .u8 0]) (zav Tryz.results11 rfl (PB.load BI) rfl rfl rfl) rfl ⟨A2, n2, c2, l2, SA, sc, m, ls.map TS.ty, rfl, HE1.out, e2, e3, e4, ((HE5.out.only OI (by omega)).less (by omega)).more (by rw [OI.2]; omega), by rw [ty_s]; exact HE6.out, by rw [List.length_map]; exact HE8.out.len, ((HE8.out.only OI (by omega)).sks HNK2.out).less (by omega), OI.bel S.u (by omega)⟩
theorem zro {w W : World} {p : Sb.Pt} {A : Option Addr} {l : List TW} {n c : Nat} {x : Rx} {now : Int} (C : RC w p A l n c x now) (S : RS w W p A n c x) {gt : Nat} {on : Bool} {fn : Int} (hw : p.wf) (he : (Jb.run p.jt now).2.2 = 0) (hO : ∀ a ∈ (Jb.run p.jt now).2.1, OkW a) (hm : (Jb.run p.jt now).2.1.length ≤ 99999) (a : Act) (ha : FrU w.heap.size now gt on fn false a) : firstWp Tryz.prog rcS_code (bodyPost Tryz.prog Tryz.f11 (RecvK ((Sb.run p now).1, 5, (Sb.run p now).2, 0) w)) a W := by
 obtain ⟨s, rfl, e1, e3, e5, e6, e11, e13, e15, e16, _⟩ := ha
 rw [r164, e1, e3, e5, e6, e11, e13, e15, e16]
 clear e1 e3 e5 e6 e11 e13 e15 e16
 have k1 := H9 fun (W : World) hW => zcs p hw A l n c (PA p A n c) rfl W C.q C.len C.n5 C.cap C.cm hW C.sq now 5 he hO (Nat.le_trans hm (by decide))
 have hnk : ∀ a ∈ (Sb.run p now).2, a.ks = [] := fun a ha => zcg _ _ a ha
 have HA := H9 C.av
 unfold PlayR at k1
 generalize Sb.run p now = R at *
 obtain ⟨q, R2⟩ := R
 simp only at k1 hnk ⊢
 have HNK := H9 hnk
 clear hw he hO hm hnk
 refine zbe ?_
 intro _ _ _ _
 go_wp2_with (first | (refine zae rfl 48 (.tmp 3) rfl (w.heap.size) 0 rfl 48 (PL p A n c) S.b0 48 _ Tryz.underlying48 zag (show 0 + 48 ≤ 48 by decide) (PA p A n c) (by rfl) rfl ?_) | fail)
 refine (k1.out _ (HA.out.later S.u)).mono ?_
 rintro e w2 ⟨A2, n2, c2, l2, SA, sc, m, ls, base, mid, rfl, e1, e2, e3, e4, e5, em1, em2, e6, e7, e8, hb2⟩
 have hL := S.u.size
 have hL2 := S.b2.lt
 replace S := S.later hb2
 have hs2 := hb2.size
 have HE1 := H9 e1
 have HE5 := H9 e5
 have HE6 := H9 e6
 have HE8 := H9 e8
 have HNK2 : Hid (∀ a ∈ ls, a.s.ks = []) := H9 fun a ha => HNK.out a.s (by rw [← e6]; exact List.mem_map_of_mem ha)
 clear hb2 HA e1 e5 e6 e8 k1 HNK
 go_wp2_with (first | (refine zaf rfl 48 (.tmp 6) (.tmp 86) rfl (w.heap.size + 1 + 1) 0 rfl 48 (PL Sb.Pt.zero none 0 0) S.b2 (PL q A2 n2 c2) rfl zag (show 0 + 48 ≤ 48 by decide) rfl (PL q A2 n2 c2) rfl ?_; intro WI BI OI) | fail)
 exact bodyPost_ret (v := .tuple #[.agg (PA q A2 n2 c2), .int .u8 5, .slice SA m sc, .int .u8 0]) (zav Tryz.results11 rfl (PB.load BI) rfl rfl rfl) rfl ⟨A2, n2, c2, l2, SA, sc, m, ls.map TS.ty, rfl, HE1.out, e2, e3, e4, ((HE5.out.only OI (by omega)).less (by omega)).more (by rw [OI.2]; omega), by rw [ty_s]; exact HE6.out, by rw [List.length_map]; exact HE8.out.len, ((HE8.out.only OI (by omega)).sks HNK2.out).less (by omega), OI.bel S.u (by omega)⟩
theorem ztx {w W : World} {p : Sb.Pt} {A : Option Addr} {l : List TW} {n c : Nat} {x : Rx} {now : Int} (C : RC w p A l n c x now) (S : RS w W p A n c x) {gt : Nat} {on : Bool} {fn : Int} (h101 : x.ty = 101) (T : Ev.Tone) (BT : Blk W gt 108 #[.int .u8 T.code, .bool T.fin, .int .u8 T.vol, .int .u16 T.dur]) (d1 : 0 ≤ T.dur) (d2 : T.dur ≤ 65535) (l0 : -9223372036854775808 ≤ p.hd.len) (l1 : p.hd.len ≤ 9223372036854775807) (hw : p.wf) (he : (Jb.run p.jt now).2.2 = 0) (hO : ∀ a ∈ (Jb.run p.jt now).2.1, OkW a) (hm : (Jb.run p.jt now).2.1.length ≤ 99999) (a : Act) (ha : FrU w.heap.size now gt on fn true a) : firstWp Tryz.prog rcS_code (bodyPost Tryz.prog Tryz.f11 (RecvK ({ (Sb.run p now).1 with hd := (Ev.hear p.hd x.ti T).1 }, 1, (Sb.run p now).2 ++ (if (Ev.hear p.hd x.ti T).2 = [] then [] else [⟨now, [], (Ev.hear p.hd x.ti T).2⟩]), 0) w)) a W := by
 obtain ⟨s, rfl, e1, e3, e5, e6, e11, e13, e15, e16, _⟩ := ha
 rw [r164, e1, e3, e5, e6, e11, e13, e15, e16]
 clear e1 e3 e5 e6 e11 e13 e15 e16
 obtain ⟨R, hR⟩ : ∃ R : Sb.Pt × Int × List Sb.Sd × Int, R = ({ (Sb.run p now).1 with hd := (Ev.hear p.hd x.ti T).1 }, 1, (Sb.run p now).2 ++ (if (Ev.hear p.hd x.ti T).2 = [] then [] else [⟨now, [], (Ev.hear p.hd x.ti T).2⟩]), 0) := ⟨_, rfl⟩
 rw [← hR]
 have k1 := H9 fun (W : World) (hW : Wts W W.heap.size A l) => (show Calls Tryz.prog 43 #[.agg (PA p A n c), .int .i64 now, .int .u32 x.ti, .agg #[.int .u8 T.code, .bool T.fin, .int .u8 T.vol, .int .u16 T.dur]] W (RecvK R W) from by
  rw [hR]
  exact zft p hw A l n c (PA p A n c) rfl W C.q C.len C.n5 C.cap C.cm hW C.sq now x.ti T.code T.vol T.dur T.fin C.t0 C.t1 d1 d2 l0 l1 he hO hm)
 have HA := H9 C.av
 unfold RecvK at k1 ⊢
 clear hR
 obtain ⟨q, v, sds, er⟩ := R
 simp only at k1 ⊢
 replace BT := H9 BT
 clear hw he hO hm d1 d2 l0 l1
 have x1 := S.c1
 have x3 := S.c3
 rw [h101] at x1
 clear h101
 refine zbe ?_
 intro _ _ _ _
 go_upto_region 19 with fail
 go_wp2_with (first | (refine zae rfl 48 (.tmp 3) rfl (w.heap.size) 0 rfl 48 (PL p A n c) S.b0 48 _ Tryz.underlying48 zag (show 0 + 48 ≤ 48 by decide) (PA p A n c) (by rfl) rfl ?_) | (refine zae rfl 108 (.tmp 11) rfl (gt) 0 rfl 108 ([.int .u8 T.code, .bool T.fin, .int .u8 T.vol, .int .u16 T.dur]) BT.out 4 _ Tryz.underlying108 zed (show 0 + 4 ≤ 4 by decide) (#[.int .u8 T.code, .bool T.fin, .int .u8 T.vol, .int .u16 T.dur]) (by rfl) rfl ?_) | fail)
 refine (k1.out _ (HA.out.later S.u)).mono ?_
 rintro e w2 ⟨A2, n2, c2, l2, SA, sc, m, ks, rfl, e1, e2, e3, e4, e5, e6, e7, e8, hb2⟩
 have hL := S.u.size
 have hL2 := S.b2.lt
 replace S := S.later hb2
 have hs2 := hb2.size
 have HE1 := H9 e1
 have HE5 := H9 e5
 have HE6 := H9 e6
 have HE8 := H9 e8
 clear hb2 HA e1 e5 e6 e8 k1 x1 x3 BT
 go_wp2_with (first | (refine zaf rfl 48 (.tmp 6) (.tmp 99) rfl (w.heap.size + 1 + 1) 0 rfl 48 (PL Sb.Pt.zero none 0 0) S.b2 (PL q A2 n2 c2) rfl zag (show 0 + 48 ≤ 48 by decide) rfl (PL q A2 n2 c2) rfl ?_; intro WI BI OI) | fail)
 exact bodyPost_ret (v := .tuple #[.agg (PA q A2 n2 c2), .int .u8 v, .slice SA m sc, .int .u8 er]) (zav Tryz.results11 rfl (PB.load BI) rfl rfl rfl) rfl ⟨A2, n2, c2, l2, SA, sc, m, ks, rfl, HE1.out, e2, e3, e4, ((HE5.out.only OI (by omega)).less (by omega)).more (by rw [OI.2]; exact Nat.le_refl _), HE6.out, e7, (HE8.out.only OI (by omega)).less (by omega), OI.bel S.u (by omega)⟩
end Go.Proofs.YtahbecinkciahaaGreat
namespace Go.Proofs.YtahbecinkciahaaGreat
open Go.RowKit
theorem meas_q (s : Jb.Jt) (m : Jb.Md) : (Jb.meas s m).q = s.q := rfl
theorem zim {w : World} {p : Sb.Pt} {A : Option Addr} {l : List TW} {n c : Nat} {x : Rx} {now : Int} {X : Array Value} (C : RC w p A l n c x now) (hw : p.wf) (hX : X = PA p A n c) (hc : Sb.chkT p now = 0) (hk : speechB x.ty = true ∨ x.ty = 13) (hF : (Pk.follow p.tk x.sq).2.2 = true) (hJ : (Jb.put p.jt now ⟨(Pk.follow p.tk x.sq).2.1, Sb.time p x.arr, x.mrk, x.ty, x.pl⟩).2.2.2 = 0) : Calls Tryz.prog 11 #[.agg X, .int .i64 now, .agg x.row] w (RecvR (Sb.recv0 p now x.arr) w) := by
 have hkn : ¬Sb.known x.arr = false := by
  unfold Sb.known
  rcases hk with e | e
  · rw [show x.arr.ty = x.ty from rfl, e]; simp
  · rw [show x.arr.ty = x.ty from rfl, e]; simp
 have h101 : ¬x.ty = 101 := by rcases hk with h | h; rcases zao.1 h with h | h | h <;> omega; omega
 have e : Sb.recv0 p now x.arr = ({ p with tk := (Pk.follow p.tk x.sq).1, ht := if p.tk.on = false ∨ p.ht < Sb.time p x.arr then Sb.time p x.arr else p.ht, st := Rep.arrive p.st (Pk.follow p.tk x.sq).2.1 (8 * now) (Sb.time p x.arr), jt := (Jb.put p.jt now ⟨(Pk.follow p.tk x.sq).2.1, Sb.time p x.arr, x.mrk, x.ty, x.pl⟩).1, seed := (Sb.sounds p.seed (Jb.put p.jt now ⟨(Pk.follow p.tk x.sq).2.1, Sb.time p x.arr, x.mrk, x.ty, x.pl⟩).2.1).1 }, (Jb.put p.jt now ⟨(Pk.follow p.tk x.sq).2.1, Sb.time p x.arr, x.mrk, x.ty, x.pl⟩).2.2.1, (Sb.sounds p.seed (Jb.put p.jt now ⟨(Pk.follow p.tk x.sq).2.1, Sb.time p x.arr, x.mrk, x.ty, x.pl⟩).2.1).2) := by
  unfold Sb.recv0
  rw [if_neg hkn]
  simp only
  rw [if_neg (by rw [show x.arr.sq = x.sq from rfl, hF]; decide), if_neg (show ¬x.arr.ty = 101 from h101)]
  rfl
 rw [e]
 obtain ⟨f1, f2, f3⟩ : ∃ F : Pk.Tr × Int × Bool, F = Pk.follow p.tk x.sq := ⟨_, rfl⟩
 refine zff C hw hX hc hk _ _ (Sb.time p x.arr) (by rw [← hF]) rfl _ _ _ ?_
 rw [← hJ]
theorem zrp {s : Jb.Jt} (h : s.ok) : ∀ a ∈ s.q, I64 a.m.sq := fun a ha => by
 have h1 := ((Jb.okQ_iff _ _ _).1 h.2.2.2.2).2.1 a ha
 have h2 := h1.1.1
 unfold I64
 omega
theorem RecvR.k {q : Sb.Pt} {v : Int} {sds : List Sb.Sd} {w w' : World} {e : Ending} (h : RecvR (q, v, sds) w e w') (hn : ∀ a ∈ sds, a.ks = []) : RecvK (q, v, sds, 0) w e w' := by
 obtain ⟨A', n', c', l', SA, sc, m, ls, base, rfl, h1, h2, h3, h4, h5, h6, h7, h8, h9⟩ := h
 exact ⟨A', n', c', l', SA, sc, m, ls.map TS.ty, rfl, h1, h2, h3, h4, h5, by rw [ty_s]; exact h6, by rw [List.length_map]; exact h8.len, (h8.sks fun a ha => hn a.s (by have h6' : ls.map TS.s = sds := h6; rw [← h6']; exact List.mem_map_of_mem ha)).less h7, h9⟩
theorem zjx (bs : List Int) (hb : Within 0 255 bs) : 0 ≤ (Ev.decT bs).1.dur ∧ (Ev.decT bs).1.dur ≤ 65535 := by
 unfold Ev.decT
 split
 · exact ⟨by decide, by decide⟩
 split
 · exact ⟨by decide, by decide⟩
 · rename_i h1 h2
   have h4 : bs.length = 4 := by omega
   have h5 := hb (bs.getD 2 0) (by rw [List.getD_eq_getElem?_getD, List.getElem?_eq_getElem (by omega)]; exact List.getElem_mem _)
   have h6 := hb (bs.getD 3 0) (by rw [List.getD_eq_getElem?_getD, List.getElem?_eq_getElem (by omega)]; exact List.getElem_mem _)
   show 0 ≤ 256 * bs.getD 2 0 + bs.getD 3 0 ∧ 256 * bs.getD 2 0 + bs.getD 3 0 ≤ 65535
   omega
theorem zoq (t : Pk.Tr) (s : Int) (h0 : 0 ≤ t.high) (h1 : t.high ≤ 140737488355328) (s0 : 0 ≤ s) (s1 : s ≤ 65535) : 0 ≤ (Pk.follow t s).2.1 ∧ (Pk.follow t s).2.1 ≤ 140737488421888 := by
 have h2 := Pk.gap_bd t.high s
 unfold Pk.follow
 split
 · exact ⟨by decide, by decide⟩
 split
 · exact ⟨s0, by show s ≤ _; omega⟩
 split
 · rename_i h; exact ⟨h.1, by show Pk.near t.high s 65536 ≤ _; omega⟩
 split
 · exact ⟨by show 0 ≤ t.high + Pk.gap t.high s; omega, by show t.high + Pk.gap t.high s ≤ _; omega⟩
 · exact ⟨(by decide : (0 : Int) ≤ 0), (by decide : (0 : Int) ≤ 140737488421888)⟩
theorem zmo {w : World} {p : Sb.Pt} {A : Option Addr} {l : List TW} {n c : Nat} {x : Rx} {now : Int} {X : Array Value} (C : RC w p A l n c x now) (hw : p.wf) (hX : X = PA p A n c) (hc : Sb.chkT p now = 0) (hz : Within 0 255 x.pl) (l0 : -9223372036854775808 ≤ p.hd.len) (l1 : p.hd.len ≤ 9223372036854775807) : Calls Tryz.prog 11 #[.agg X, .int .i64 now, .agg x.row] w (RecvK ((Sb.recv0 p now x.arr).1, (Sb.recv0 p now x.arr).2.1, (Sb.recv0 p now x.arr).2.2, 0) w) := by
 obtain ⟨hv, hn1, hn2⟩ := zdk hc
 have hnr : p.near := by
  have hv' := hv
  unfold Sb.Pt.valid at hv'
  simp only [Bool.and_eq_true] at hv'
  exact of_decide_eq_true hv'.2
 obtain ⟨r1, r2, r3, r4, r5, r6⟩ := hnr
 obtain ⟨u1, u2⟩ := zko hc
 have hO : ∀ a ∈ (Jb.run p.jt now).2.1, OkW a := by rw [u2]; exact zjb C.ok
 have hm : (Jb.run p.jt now).2.1.length ≤ 99999 := by
  rw [u2]
  have h1 := zdw now p.jt.q
  have h2 := ((Jb.okQ_iff _ _ _).1 (zgl hv).2.2.2.2).1
  omega
 have h15 := C.h15
 obtain ⟨F, fn, ok, hF⟩ : ∃ F fn ok, Pk.follow p.tk x.sq = (F, fn, ok) := ⟨_, _, _, rfl⟩
 have hfb := zoq p.tk x.sq r1 r2 C.q0 C.q1
 have hF2 : Pk.follow p.tk x.arr.sq = (F, fn, ok) := hF
 rw [hF] at hfb
 have hw2 : ({ p with tk := F } : Sb.Pt).wf := ⟨hw.codec, hw.src, hw.seq, hw.time, hw.below, hw.tvol, hw.tcode, hw.tst, hw.seed, hw.pk, hw.oc⟩
 by_cases h101 : x.ty = 101
 · obtain ⟨T, er, hT⟩ : ∃ T er, Ev.decT x.pl = (T, er) := ⟨_, _, rfl⟩
   have hT2 : Ev.decT x.arr.pl = (T, er) := hT
   have htb := zjx x.pl hz
   rw [hT] at htb
   have hsp : speechB 101 = false := rfl
   refine zeo C hw hX hc fun W a S ha => zsk C S h101 hz T er hT (er == 0) rfl (fun W a gt S BT hgt ha => ?_) a ha
   by_cases he : er = 0
   · subst he
     have hkn : Sb.known x.arr = true := by unfold Sb.known; rw [hT2, show x.arr.ty = x.ty from rfl, h101]; rfl
     refine znq C S BT hgt F fn ok hF (by omega) (by omega) (by omega) (by omega) (fun W a S BT ha => ?_) a ha
     cases ok
     · have e : Sb.recv0 p now x.arr = ((Sb.run { p with tk := F } now).1, 5, (Sb.run { p with tk := F } now).2) := by
        unfold Sb.recv0
        rw [if_neg (by rw [hkn]; decide)]
        simp only [hF2, if_true]
       rw [e]
       exact zro (p := { p with tk := F }) (C.with rfl rfl) S hw2 u1 hO hm a ha
     · have e : Sb.recv0 p now x.arr = ({ (Sb.run { p with tk := F } now).1 with hd := (Ev.hear p.hd x.ti T).1 }, 1, (Sb.run { p with tk := F } now).2 ++ (if (Ev.hear p.hd x.ti T).2 = [] then [] else [⟨now, [], (Ev.hear p.hd x.ti T).2⟩])) := by
        unfold Sb.recv0
        rw [if_neg (by rw [hkn]; decide)]
        simp only [hF2]
        rw [if_neg (by decide), if_pos (show x.arr.ty = 101 from h101), hT2]
        rfl
       rw [e]
       exact ztx (p := { p with tk := F }) (C.with rfl rfl) S h101 T BT htb.1 htb.2 l0 l1 hw2 u1 hO hm a ha
   · have hkn : Sb.known x.arr = false := by unfold Sb.known; rw [hT2, show x.arr.ty = x.ty from rfl, h101]; simpa [hsp] using he
     have e : Sb.recv0 p now x.arr = ((Sb.run p now).1, 5, (Sb.run p now).2) := by
      unfold Sb.recv0
      rw [if_pos hkn]
     rw [e]
     have e2 : (er == 0) = false := by simpa using he
     rw [e2] at ha
     exact zrn C S hw u1 hO hm a ha
 have hkk : Sb.known x.arr = (speechB x.ty || x.ty == 13) := by
  unfold Sb.known
  rw [show x.arr.ty = x.ty from rfl, show (x.ty == 101) = false by simpa using h101]
  simp
 cases hk : (speechB x.ty || x.ty == 13)
 · rw [hk] at hkk
   have e : Sb.recv0 p now x.arr = ((Sb.run p now).1, 5, (Sb.run p now).2) := by
    unfold Sb.recv0
    rw [if_pos hkk]
   rw [e]
   refine zeo C hw hX hc fun W a S ha => zno C S h101 (fun W a gt S BT hgt ha => ?_) a ha
   rw [hk] at ha
   exact zrn C S hw u1 hO hm a ha
 rw [hk] at hkk
 cases ok
 · have e : Sb.recv0 p now x.arr = ((Sb.run { p with tk := F } now).1, 5, (Sb.run { p with tk := F } now).2) := by
    unfold Sb.recv0
    rw [if_neg (by rw [hkk]; decide)]
    simp only [hF2, if_true]
   rw [e]
   refine zeo C hw hX hc fun W a S ha => zno C S h101 (fun W a gt S BT hgt ha => ?_) a ha
   rw [hk] at ha
   refine znq C S BT hgt F fn false hF (by omega) (by omega) (by omega) (by omega) (fun W a S BT ha => ?_) a ha
   exact zro (p := { p with tk := F }) (C.with rfl rfl) S hw2 u1 hO hm a ha
 · have hk2 : speechB x.ty = true ∨ x.ty = 13 := by
    rcases Bool.or_eq_true_iff.1 hk with h | h
    · exact .inl h
    · exact .inr (by simpa using h)
   have ht0 := C.t0
   have ht1 := C.t1
   have htm : -281474976710656 ≤ Sb.time p x.arr ∧ Sb.time p x.arr ≤ 281474976710656 := by
    unfold Sb.time
    split
    · have h := Pk.near_bd32 p.ht x.arr.ti (by omega)
      omega
    · show -281474976710656 ≤ x.ti ∧ x.ti ≤ 281474976710656; omega
   have hJ : (Jb.put p.jt now ⟨(Pk.follow p.tk x.sq).2.1, Sb.time p x.arr, x.mrk, x.ty, x.pl⟩).2.2.2 = 0 := by
    have hmo : (⟨(Pk.follow p.tk x.sq).2.1, Sb.time p x.arr, x.mrk, x.ty, x.pl⟩ : Jb.Md).ok := by
     rw [hF]
     exact ⟨⟨hfb.1, by have := hfb.2; show fn ≤ _; simp only at this; omega⟩, htm, h15⟩
    unfold Jb.put
    rw [Jb.chk_put (zgl hv) hn2 hn1 hmo, if_pos rfl]
   have e : (Sb.recv0 p now x.arr).2.2 = (Sb.sounds p.seed (Jb.put p.jt now ⟨(Pk.follow p.tk x.sq).2.1, Sb.time p x.arr, x.mrk, x.ty, x.pl⟩).2.1).2 := by
    unfold Sb.recv0
    rw [if_neg (by rw [hkk]; decide)]
    simp only
    rw [if_neg (by rw [hF2]; simp), if_neg (show ¬x.arr.ty = 101 from h101)]
    rfl
   refine (zim C hw hX hc hk2 (by rw [hF]) hJ).mono fun e1 w1 h => RecvR.k h fun a ha => ?_
   rw [e] at ha
   exact zcg _ _ a ha
end Go.Proofs.YtahbecinkciahaaGreat
namespace Go.Proofs.YtahbecinkciahaaGreat
open Go.ChangeShapes Go.WideShapes Go.ChangeAt Go.RowKit Go.Deep
section
variable {H : Type} {enc : TypeId × Value → H} {P : Program} {w : World} {r : Reach} {b0 base : Nat} {spare : Nat → Bool} {held : Bool}
theorem zor {α : Type} {row : α → List Value} {ok : α → Prop} {t e : TypeId} {v : Value} {size : Nat} {d : DataW H} {p : List MemPlace} (ht : P.underlying t = some (.slice e)) (hsz : P.cellsOf e = size) (h0 : 0 < size)
 (hv : Value.okWide P w r b0 t v) (h : DataW.Trod enc P w base spare held t v d p) (hopen : ∀ n cs x, DataW.trod enc P w base spare held n e cs = some x → ∃ a, cs = row a ∧ ok a) :
 ∃ (A : Option Addr) (l : List α) (cap : Nat), v = .slice A l.length cap ∧ l.length ≤ cap ∧ cap ≤ maxLen ∧ RowsAt w w.heap.size size row A l ∧ ∀ a ∈ l, ok a := by
 obtain ⟨A, len, cap, rfl⟩ := okWide_slice ht hv
 obtain ⟨n, h⟩ := h
 exact Leaf.rows ⟨n, _, h⟩ ht hsz h0 hopen
structure TInts where
 A : Option Addr
 zs : List Int
 cap : Nat
def TInts.row (a : TInts) : List Value := [.slice a.A a.zs.length a.cap]
def TInts.ok (k : IntKind) (w : World) (a : TInts) : Prop := a.zs.length ≤ a.cap ∧ a.cap ≤ maxLen ∧ IntsAt w w.heap.size k a.A a.zs ∧ ∀ z ∈ a.zs, (Lit.int k z).wf = true
theorem TInts.of_trod {t e : TypeId} {k : IntKind} (ht : P.underlying t = some (.slice e)) (he : P.underlying e = some (.int k)) (hc : P.cellsOf e = 1) (n : Nat) (cs : List Value) (x : DataW H × List MemPlace)
 (h : DataW.trod enc P w base spare held n t cs = some x) : ∃ a : TInts, cs = a.row ∧ a.ok k w := by
 have hv : ∃ v, cs = [v] := by
  rcases open_slice ht h with ⟨hcs, _⟩ | ⟨x, l, c, _, _, _, _, hcs, _⟩
  · exact ⟨_, hcs⟩
  · exact ⟨_, hcs⟩
 obtain ⟨v, rfl⟩ := hv
 obtain ⟨A, zs, cap, rfl, h1, h2, h3, h4⟩ := Leaf.ints (enc := enc) (spare := spare) (held := held) (base := base) ⟨n, x, h⟩ ht he hc
 exact ⟨⟨A, zs, cap⟩, rfl, h1, h2, h3, h4⟩
end
structure TMv where
 loud : Int
 key : Int
 code : Int
 late : Int
 lost : Bool
def TMv.row (a : TMv) : List Value := [.int .u16 a.loud, .int .u8 a.key, .int .u8 a.code, .int .u8 a.late, .bool a.lost]
def TMv.ok (a : TMv) : Prop := (Lit.int .u16 a.loud).wf = true ∧ (Lit.int .u8 a.key).wf = true ∧ (Lit.int .u8 a.code).wf = true ∧ (Lit.int .u8 a.late).wf = true
theorem TMv.of_trod {H : Type} {enc : TypeId × Value → H} {w : World} {base : Nat} {spare : Nat → Bool} {held : Bool} (n : Nat) (cs : List Value) (x : DataW H × List MemPlace) (h : DataW.trod enc Tryz.prog w base spare held n 80 cs = some x) : ∃ a : TMv, cs = a.row ∧ a.ok := by
 obtain ⟨hl, hf⟩ := zet 12 n 80 [31, 5, 5, 5, 4] cs x (by kernel_rfl) h
 obtain ⟨c0, h0, l0⟩ := hf 0 _ rfl
 obtain ⟨z0, rfl, w0⟩ := l0.int Tryz.underlying31
 obtain ⟨c1, h1, l1⟩ := hf 1 _ rfl
 obtain ⟨z1, rfl, w1⟩ := l1.int Tryz.underlying5
 obtain ⟨c2, h2, l2⟩ := hf 2 _ rfl
 obtain ⟨z2, rfl, w2⟩ := l2.int Tryz.underlying5
 obtain ⟨c3, h3, l3⟩ := hf 3 _ rfl
 obtain ⟨z3, rfl, w3⟩ := l3.int Tryz.underlying5
 obtain ⟨c4, h4, l4⟩ := hf 4 _ rfl
 obtain ⟨z4, rfl⟩ := l4.bool Tryz.underlying4
 exact ⟨⟨z0, z1, z2, z3, z4⟩, AllAt.eq ⟨h0, h1, h2, h3, h4, trivial⟩ hl, w0, w1, w2, w3⟩
theorem TMv.open_ {H : Type} {enc : TypeId × Value → H} {w : World} {r : Reach} {b0 base : Nat} {spare : Nat → Bool} {held : Bool} {v : Value} {d : DataW H} {p : List MemPlace} (hv : Value.okWide Tryz.prog w r b0 80 v) (h : DataW.Trod enc Tryz.prog w base spare held 80 v d p) : ∃ a : TMv, v = .agg a.row.toArray ∧ a.ok := by
 obtain ⟨cs, rfl, _⟩ := okWide_struct Tryz.underlying80 hv
 obtain ⟨n, h⟩ := h
 obtain ⟨a, ha, hok⟩ := TMv.of_trod n _ _ h
 refine ⟨a, ?_, hok⟩
 have : cs.toList = a.row := by simpa [Value.cells] using ha
 rw [← this]
structure TCf where
 least : Int
 most : Int
def TCf.row (a : TCf) : List Value := [.int .i64 a.least, .int .i64 a.most]
def TCf.ok (a : TCf) : Prop := (Lit.int .i64 a.least).wf = true ∧ (Lit.int .i64 a.most).wf = true
theorem TCf.of_trod {H : Type} {enc : TypeId × Value → H} {w : World} {base : Nat} {spare : Nat → Bool} {held : Bool} (n : Nat) (cs : List Value) (x : DataW H × List MemPlace) (h : DataW.trod enc Tryz.prog w base spare held n 37 cs = some x) : ∃ a : TCf, cs = a.row ∧ a.ok := by
 obtain ⟨hl, hf⟩ := zet 12 n 37 [3, 3] cs x (by kernel_rfl) h
 obtain ⟨c0, h0, l0⟩ := hf 0 _ rfl
 obtain ⟨z0, rfl, w0⟩ := l0.int Tryz.underlying3
 obtain ⟨c1, h1, l1⟩ := hf 1 _ rfl
 obtain ⟨z1, rfl, w1⟩ := l1.int Tryz.underlying3
 exact ⟨⟨z0, z1⟩, AllAt.eq ⟨h0, h1, trivial⟩ hl, w0, w1⟩
theorem TCf.open_ {H : Type} {enc : TypeId × Value → H} {w : World} {r : Reach} {b0 base : Nat} {spare : Nat → Bool} {held : Bool} {v : Value} {d : DataW H} {p : List MemPlace} (hv : Value.okWide Tryz.prog w r b0 37 v) (h : DataW.Trod enc Tryz.prog w base spare held 37 v d p) : ∃ a : TCf, v = .agg a.row.toArray ∧ a.ok := by
 obtain ⟨cs, rfl, _⟩ := okWide_struct Tryz.underlying37 hv
 obtain ⟨n, h⟩ := h
 obtain ⟨a, ha, hok⟩ := TCf.of_trod n _ _ h
 refine ⟨a, ?_, hok⟩
 have : cs.toList = a.row := by simpa [Value.cells] using ha
 rw [← this]
end Go.Proofs.YtahbecinkciahaaGreat
namespace Go.Proofs.YtahbecinkciahaaGreat
open Go.RowKit
structure EV (w W : World) (g5 ga gu gc M : Nat) (ls mo : Int) (p u : Sb.Pt) (A1 : Option Addr) (c1 : Nat) (A2 : Option Addr) (n2 c2 : Nat) (l2 : List TW) (cv ci : Int) (WA : Option Addr) (wc : Nat) (wl : List TS) (GA : Option Addr) (gk : Nat) (gl : List TY) : Prop where
 m : EM W M [ga, gu, gc] WA wc wl GA gk gl A2 l2
 ba : PB W ga p A1 0 c1
 bu : PB W gu u A2 n2 c2
 bc : Blk W gc 24 #[.int .i64 cv, .int .i64 ci]
 b5 : Blk W g5 37 #[.int .i64 ls, .int .i64 mo]
 be : Bel w W
 o1 : w.heap.size ≤ g5
 o2 : g5 < ga
 o3 : ga < gu
 o4 : gu < gc
 o5 : gc < M
 k1 : c1 ≤ maxLen
 hq : l2.map TW.w = u.jt.q
 hn : l2.length = n2
 hc : n2 ≤ c2
 hm : c2 ≤ maxLen
section
variable {w W W' : World} {g5 ga gu gc M : Nat} {ls mo : Int} {p p' u u' : Sb.Pt} {A1 A1' : Option Addr} {c1 c1' : Nat} {A2 A2' : Option Addr} {n2 c2 n2' c2' : Nat} {l2 l2' : List TW} {cv ci cv' ci' : Int} {WA An : Option Addr} {wc cn : Nat} {wl : List TS} {GA : Option Addr} {gk gk' : Nat} {gl gl' : List TY} {wl' : List TS} {GA' : Option Addr}
theorem EV.later (h : EV w W g5 ga gu gc M ls mo p u A1 c1 A2 n2 c2 l2 cv ci WA wc wl GA gk gl) (hb : Below W.heap.size W W') : EV w W' g5 ga gu gc M ls mo p u A1 c1 A2 n2 c2 l2 cv ci WA wc wl GA gk gl :=
 ⟨h.m.later hb, h.ba.later hb, h.bu.later hb, h.bc.later hb, h.b5.later hb, h.be.later hb, h.o1, h.o2, h.o3, h.o4, h.o5, h.k1, h.hq, h.hn, h.hc, h.hm⟩
theorem EV.push (h : EV w W g5 ga gu gc M ls mo p u A1 c1 A2 n2 c2 l2 cv ci WA wc wl GA gk gl) (o : Obj) : EV w (W.alloc o) g5 ga gu gc M ls mo p u A1 c1 A2 n2 c2 l2 cv ci WA wc wl GA gk gl := h.later ((Below.refl _ _).alloc (Nat.le_refl _) _)
theorem EV.boxA (h : EV w W g5 ga gu gc M ls mo p u A1 c1 A2 n2 c2 l2 cv ci WA wc wl GA gk gl) (ho : OnlyB ga W W') (hb : PB W' ga p' A1' 0 c1') (hk : c1' ≤ maxLen) : EV w W' g5 ga gu gc M ls mo p' u A1' c1' A2 n2 c2 l2 cv ci WA wc wl GA gk gl := by
 have h1 := h.o1; have h2 := h.o2; have h3 := h.o3; have h4 := h.o4
 exact ⟨h.m.box ho (by simp), hb, ho.blk h.bu (by omega), ho.blk h.bc (by omega), ho.blk h.b5 (by omega), ho.bel h.be (by omega), h.o1, h.o2, h.o3, h.o4, h.o5, hk, h.hq, h.hn, h.hc, h.hm⟩
theorem EV.boxC (h : EV w W g5 ga gu gc M ls mo p u A1 c1 A2 n2 c2 l2 cv ci WA wc wl GA gk gl) (ho : OnlyB gc W W') (hb : Blk W' gc 24 #[.int .i64 cv', .int .i64 ci']) : EV w W' g5 ga gu gc M ls mo p u A1 c1 A2 n2 c2 l2 cv' ci' WA wc wl GA gk gl := by
 have h1 := h.o1; have h2 := h.o2; have h3 := h.o3; have h4 := h.o4
 exact ⟨h.m.box ho (by simp), ho.blk h.ba (by omega), ho.blk h.bu (by omega), hb, ho.blk h.b5 (by omega), ho.bel h.be (by omega), h.o1, h.o2, h.o3, h.o4, h.o5, h.k1, h.hq, h.hn, h.hc, h.hm⟩
theorem EV.boxU (h : EV w W g5 ga gu gc M ls mo p u A1 c1 A2 n2 c2 l2 cv ci WA wc wl GA gk gl) (ho : OnlyB gu W W') (hb : PB W' gu u' A2' n2' c2') (hq : QAv W (ES [ga, gu, gc] WA GA) A2' l2') (h1 : l2'.map TW.w = u'.jt.q) (h2 : l2'.length = n2') (h3 : n2' ≤ c2') (h4 : c2' ≤ maxLen) :
 EV w W' g5 ga gu gc M ls mo p u' A1 c1 A2' n2' c2' l2' cv ci WA wc wl GA gk gl := by
 have x1 := h.o1; have x2 := h.o2; have x3 := h.o3; have x4 := h.o4
 exact ⟨(h.m.queue hq).box ho (by simp), ho.blk h.ba (by omega), hb, ho.blk h.bc (by omega), ho.blk h.b5 (by omega), ho.bel h.be (by omega), h.o1, h.o2, h.o3, h.o4, h.o5, h.k1, h1, h2, h3, h4⟩
theorem EV.grown {row : Option Nat} (h : EV w W g5 ga gu gc M ls mo p u A1 c1 A2 n2 c2 l2 cv ci WA wc wl GA gk gl) (hg : W.grownBy W' row) (hr : ∀ g, row = some g → M ≤ g) (hm : EM W' M [ga, gu, gc] An cn wl' GA' gk' gl' A2 l2) : EV w W' g5 ga gu gc M ls mo p u A1 c1 A2 n2 c2 l2 cv ci An cn wl' GA' gk' gl' := by
 have x1 := h.o1; have x2 := h.o2; have x3 := h.o3; have x4 := h.o4; have x5 := h.o5
 exact ⟨hm, Blk.grown h.ba hg (fun e => by have := hr _ e.symm; omega), Blk.grown h.bu hg (fun e => by have := hr _ e.symm; omega), h.bc.grown hg (fun e => by have := hr _ e.symm; omega), h.b5.grown hg (fun e => by have := hr _ e.symm; omega), Below.grown h.be hg h.be.size (fun k e => by have := hr k e; omega), h.o1, h.o2, h.o3, h.o4, h.o5, h.k1, h.hq, h.hn, h.hc, h.hm⟩
theorem EV.want (h : EV w W g5 ga gu gc M ls mo p u A1 c1 A2 n2 c2 l2 cv ci WA wc wl GA gk gl) (a : TS) (hg : W.grownBy W' (ownB WA)) (qo : Owns W' M 86 3 An (wl.length + 1) cn (wl.flatMap TS.row ++ a.row)) (hat : ownB An = ownB WA ∨ ∀ g, ownB An = some g → W.heap.size ≤ g)
 (hp : IntsAv W (ES [ga, gu, gc] WA GA) .i16 a.S a.s.zs) : EV w W' g5 ga gu gc M ls mo p u A1 c1 A2 n2 c2 l2 cv ci An cn (wl ++ [a]) GA gk gl := h.grown hg (fun g e => (h.m.wown.block g e).1) (h.m.want a hg qo hat hp)
theorem EV.got (h : EV w W g5 ga gu gc M ls mo p u A1 c1 A2 n2 c2 l2 cv ci WA wc wl GA gk gl) (hg : W.grownBy W' (ownB GA)) (qo : Owns W' M 86 3 An (gl.length + gl'.length) cn (gl.flatMap TY.row ++ gl'.flatMap TY.row)) (hat : ownB An = ownB GA ∨ ownB An = some W.heap.size)
 (hp : ∀ a ∈ gl', IntsAv W (ES [ga, gu, gc] WA GA) .i16 a.S a.s.zs) (hk : ∀ a ∈ gl', RowsAv W (ES [ga, gu, gc] WA GA) 4 Ev.Key.row a.K a.s.ks) : EV w W' g5 ga gu gc M ls mo p u A1 c1 A2 n2 c2 l2 cv ci WA wc wl An cn (gl ++ gl') := h.grown hg (fun g e => (h.m.gown.block g e).1) (h.m.got hg qo hat hp hk)
theorem EV.lt (h : EV w W g5 ga gu gc M ls mo p u A1 c1 A2 n2 c2 l2 cv ci WA wc wl GA gk gl) : M ≤ W.heap.size := h.m.ms
end
def EF (k ls trip : Int) (AL : Option Addr) (nL cL : Nat) (g5 ga gu gc : Nat) (WA : Option Addr) (wn wc : Nat) (GA : Option Addr) (gn gk : Nat) (pr i : Int) : List (Nat × Value) :=
 [(2, .slice AL nL cL), (3, .int .u16 trip), (5, .pointer (some ⟨g5, 0, none⟩)), (9, .int .u8 k), (10, .pointer (some ⟨ga, 0, none⟩)), (12, .pointer (some ⟨gu, 0, none⟩)), (13, .slice WA wn wc), (14, .slice GA gn gk), (15, .slice none 0 0), (16, .pointer (some ⟨gc, 0, none⟩)), (17, .int .i64 pr), (18, .int .i64 0), (19, .int .i64 i)]
end Go.Proofs.YtahbecinkciahaaGreat
namespace Go.Proofs.YtahbecinkciahaaGreat
attribute [local go_sem ↓] zab zac
attribute [local go_sem] zaa zad
open Go.RowKit
structure SksIn (w : World) (lo hi : Nat) (A : Option Addr) (l : List TY) : Prop where
 rows : RowsAt w hi 3 TY.row A l
 low : 0 < l.length → ∀ b off, A = some ⟨b, off, none⟩ → lo ≤ b
 pay : ∀ a ∈ l, IntsAt w hi .i16 a.S a.s.zs ∧ (0 < a.s.zs.length → ∀ b off, a.S = some ⟨b, off, none⟩ → lo ≤ b)
 keys : ∀ a ∈ l, RowsAt w hi 4 Ev.Key.row a.K a.s.ks ∧ (0 < a.s.ks.length → ∀ b off, a.K = some ⟨b, off, none⟩ → lo ≤ b)
section
variable {w w' : World} {lo hi : Nat} {A : Option Addr} {l : List TY}
theorem SksIn.keep (h : SksIn w lo hi A l) (hk : ∀ p : Addr, lo ≤ p.block → p.block < hi → w'.cell? p = w.cell? p) : SksIn w' lo hi A l := by
 refine ⟨fun h0 => ?_, h.low, fun a ha => ⟨fun h0 => ?_, (h.pay a ha).2⟩, fun a ha => ⟨fun h0 => ?_, (h.keys a ha).2⟩⟩
 · obtain ⟨b, off, rfl, hb, hc⟩ := h.rows h0
   have hlo := h.low h0 b off rfl
   exact ⟨b, off, rfl, hb, fun i a ha j v hv => (hk _ hlo hb).trans (hc i a ha j v hv)⟩
 · obtain ⟨b, off, e, hb, hc⟩ := (h.pay a ha).1 h0
   have hlo := (h.pay a ha).2 h0 b off e
   exact ⟨b, off, e, hb, fun i hi => (hk _ hlo hb).trans (hc i hi)⟩
 · obtain ⟨b, off, e, hb, hc⟩ := (h.keys a ha).1 h0
   have hlo := (h.keys a ha).2 h0 b off e
   exact ⟨b, off, e, hb, fun i a ha j v hv => (hk _ hlo hb).trans (hc i a ha j v hv)⟩
theorem SksIn.onlyN {g : Nat} (h : SksIn w lo hi A l) (ho : OnlyB g w w') (hg : g < lo ∨ hi ≤ g) : SksIn w' lo hi A l := h.keep fun p h1 h2 => ho.cell (by omega)
theorem SksIn.below (h : SksIn w lo hi A l) {B : Nat} (hb : Below B w w') (hB : hi ≤ B) : SksIn w' lo hi A l := h.keep fun q _ hq => hb.cell (by omega)
theorem SksIn.more {hi' : Nat} (h : SksIn w lo hi A l) (hl : hi ≤ hi') : SksIn w lo hi' A l := ⟨h.rows.more hl, h.low, fun a ha => ⟨(h.pay a ha).1.more hl, (h.pay a ha).2⟩, fun a ha => ⟨(h.keys a ha).1.more hl, (h.keys a ha).2⟩⟩
theorem SksIn.less {lo' : Nat} (h : SksIn w lo hi A l) (hl : lo' ≤ lo) : SksIn w lo' hi A l := ⟨h.rows, fun h0 b off e => Nat.le_trans hl (h.low h0 b off e), fun a ha => ⟨(h.pay a ha).1, fun h0 b off e => Nat.le_trans hl ((h.pay a ha).2 h0 b off e)⟩, fun a ha => ⟨(h.keys a ha).1, fun h0 b off e => Nat.le_trans hl ((h.keys a ha).2 h0 b off e)⟩⟩
theorem Sks.in_ (h : Sks w lo A l) : SksIn w lo w.heap.size A l := ⟨h.rows, h.low, h.pay, h.keys⟩
end
noncomputable def en38_code : Code := ((Tryz.f6.body.bind (findRegS 38)).getD .skip)
theorem zsl {s0 s1 s2 s3 s4 s5 s6 s7 s8 s9 s10 s11 s13 s14 s15 s16 s17 s18 s19 s20 s21 s22 s23 s24 s25 s27 s29 s30 s31 s32 s33 s34 s35 s36 s37 s38 s39 s40 s41 s42 s43 s44 s45 s46 s47 s48 s49 s50 s51 s52 s53 s54 s55 s56 s57 s58 s59 s60 s61 s62 s63 s64 s65 s66 s67 s68 s69 s70 s71 s72 s73 s74 s75 s76 s77 s78 s79 s80 s81 s82 s83 s84 s85 s86 s87 s88 s89 s90 s91 s92 s93 s94 s95 s96 s97 s98 s99 s100 s101 s102 s103 s104 s105 s106 s107 s108 s109 s110 s111 s112 s113 s114 s115 s116 s117 s118 s119 s120 s121 s122 s123 s124 s125 s126 s127 s128 s129 s130 s131 s132 s133 s134 s135 s136 s137 s138 s139 s140 s141 s142 s143 s144 s145 s146 s147 s148 s149 s150 s151 s152 s153 s154 s155 s156 s157 s158 s159 s160 s161 s162 s163 s164 s165 s166 s167 s168 s169 s170 s171 s172 s173 s174 s175 s176 s177 s178 s179 s180 s181 s182 s183 s184 s185 s186 s187 s188 s189 s190 s191 s192 s193 s194 s195 s196 s197 s198 s199 s200 s201 s202 s203 s204 s205 s206 s207 s208 s209 s210 s211 s212 s213 s214 s215 s216 s217 s218 s219 s220 s221 s222 s223 s224 s225 s226 s227 s228 s229 s230 s231 s232 s233 s234 s235 s236 s237 s238 s239 s240 s241 s242 s243 s244 s245 s246 s247 s248 s249 s250 s251 s252 s253 s254 s255 s256 s257 s258 s259 s260 s261 s262 s263 s264 s265 s266 s267 s268 s269 s270 s271 s272 s273 s274 s275 s276 s277 s278 s279 s280 s281 s282 s283 s284 s285 s286 s287 s288 s289 s290 s291 s292 s293 s294 s295 s296 s297 s298 s299 s300 s301 s302 s303 s304 s305 s306 s307 s308 s309 s310 s311 s312 s313 s314 s315 s316 s317 s318 s319 s320 s321 s322 s323 s324 : Value} {Q : Exit → Act → World → Prop} (g bK oK kc : Nat) (k : Sb.Pkt) (B : Option Addr) (bc : Nat) (now : Int) (u : Sb.Pt) (A : Option Addr) (n c : Nat) (R : Sb.Pt × Int × List Sb.Sd × Int) (W : World) (hB : PB W g u A n c) (x0 : W.cell? ⟨bK, oK, none⟩ = some (.bool k.mrk)) (x1 : W.cell? ⟨bK, oK + 1, none⟩ = some (.int .u8 k.ty)) (x2 : W.cell? ⟨bK, oK + 2, none⟩ = some (.int .u16 k.sq)) (x3 : W.cell? ⟨bK, oK + 3, none⟩ = some (.int .u32 k.ti)) (x4 : W.cell? ⟨bK, oK + 4, none⟩ = some (.int .u32 k.src)) (x5 : W.cell? ⟨bK, oK + 5, none⟩ = some (.slice none 0 0)) (x6 : W.cell? ⟨bK, oK + 6, none⟩ = some (.bool false)) (x7 : W.cell? ⟨bK, oK + 7, none⟩ = some (.int .u16 0)) (x8 : W.cell? ⟨bK, oK + 8, none⟩ = some (.slice none 0 0)) (x9 : W.cell? ⟨bK, oK + 9, none⟩ = some (.slice B k.pl.length bc)) (x10 : W.cell? ⟨bK, oK + 10, none⟩ = some (.int .i64 0)) (kR : ∀ V : World, Below W.heap.size W V → Calls Tryz.prog 11 #[.agg (PA u A n c), .int .i64 now, .agg (pktRow k B bc).toArray] V (RecvK R V)) (hQp : ∀ (ch : _) (a : Act) (d : Tmp) (u : Value) (w : World), Q (.panic ch) (a.put (some d) u) w → Q (.panic ch) a w)
 (h : ∀ (wx : World) (g3 : Nat) (SA : Option Addr) (sc m : Nat) (A' : Option Addr) (n' c' : Nat) (l' : List TW) (ls : List TY) (u195 u196 u197 u198 u199 u200 u201 u202 u203 u204 u205 : Value), Hid (PB wx g3 R.1 A' n' c') → Hid (l'.map TW.w = R.1.jt.q) → l'.length = n' → n' ≤ c' → c' ≤ maxLen → Hid (WtsIn wx W.heap.size wx.heap.size A' l') → Hid (ls.map TY.s = R.2.2.1) → ls.length = m → Hid (SksIn wx W.heap.size wx.heap.size SA ls) → W.heap.size ≤ g3 → Hid (Below W.heap.size W wx) → Q .normal ⟨#[s0, s1, s2, s3, s4, s5, s6, s7, s8, s9, s10, s11, .pointer (some ⟨g, 0, none⟩), s13, s14, s15, s16, s17, s18, s19, s20, s21, s22, s23, s24, s25, .slice (some ⟨bK, oK, none⟩) 1 kc, s27, .int .i64 now, s29, s30, s31, s32, s33, .pointer (some ⟨g3, 0, none⟩), .int .u8 R.2.1, .slice SA m sc, .int .u8 R.2.2.2, s38, s39, s40, s41, s42, s43, s44, s45, s46, s47, s48, s49, s50, s51, s52, s53, s54, s55, s56, s57, s58, s59, s60, s61, s62, s63, s64, s65, s66, s67, s68, s69, s70, s71, s72, s73, s74, s75, s76, s77, s78, s79, s80, s81, s82, s83, s84, s85, s86, s87, s88, s89, s90, s91, s92, s93, s94, s95, s96, s97, s98, s99, s100, s101, s102, s103, s104, s105, s106, s107, s108, s109, s110, s111, s112, s113, s114, s115, s116, s117, s118, s119, s120, s121, s122, s123, s124, s125, s126, s127, s128, s129, s130, s131, s132, s133, s134, s135, s136, s137, s138, s139, s140, s141, s142, s143, s144, s145, s146, s147, s148, s149, s150, s151, s152, s153, s154, s155, s156, s157, s158, s159, s160, s161, s162, s163, s164, s165, s166, s167, s168, s169, s170, s171, s172, s173, s174, s175, s176, s177, s178, s179, s180, s181, s182, s183, s184, s185, s186, s187, s188, s189, s190, s191, s192, s193, s194, u195, u196, u197, u198, u199, u200, u201, u202, u203, u204, u205, s206, s207, s208, s209, s210, s211, s212, s213, s214, s215, s216, s217, s218, s219, s220, s221, s222, s223, s224, s225, s226, s227, s228, s229, s230, s231, s232, s233, s234, s235, s236, s237, s238, s239, s240, s241, s242, s243, s244, s245, s246, s247, s248, s249, s250, s251, s252, s253, s254, s255, s256, s257, s258, s259, s260, s261, s262, s263, s264, s265, s266, s267, s268, s269, s270, s271, s272, s273, s274, s275, s276, s277, s278, s279, s280, s281, s282, s283, s284, s285, s286, s287, s288, s289, s290, s291, s292, s293, s294, s295, s296, s297, s298, s299, s300, s301, s302, s303, s304, s305, s306, s307, s308, s309, s310, s311, s312, s313, s314, s315, s316, s317, s318, s319, s320, s321, s322, s323, s324], []⟩ wx) : en38_code.wp Tryz.prog Q ⟨#[s0, s1, s2, s3, s4, s5, s6, s7, s8, s9, s10, s11, .pointer (some ⟨g, 0, none⟩), s13, s14, s15, s16, s17, s18, s19, s20, s21, s22, s23, s24, s25, .slice (some ⟨bK, oK, none⟩) 1 kc, s27, .int .i64 now, s29, s30, s31, s32, s33, s34, s35, s36, s37, s38, s39, s40, s41, s42, s43, s44, s45, s46, s47, s48, s49, s50, s51, s52, s53, s54, s55, s56, s57, s58, s59, s60, s61, s62, s63, s64, s65, s66, s67, s68, s69, s70, s71, s72, s73, s74, s75, s76, s77, s78, s79, s80, s81, s82, s83, s84, s85, s86, s87, s88, s89, s90, s91, s92, s93, s94, s95, s96, s97, s98, s99, s100, s101, s102, s103, s104, s105, s106, s107, s108, s109, s110, s111, s112, s113, s114, s115, s116, s117, s118, s119, s120, s121, s122, s123, s124, s125, s126, s127, s128, s129, s130, s131, s132, s133, s134, s135, s136, s137, s138, s139, s140, s141, s142, s143, s144, s145, s146, s147, s148, s149, s150, s151, s152, s153, s154, s155, s156, s157, s158, s159, s160, s161, s162, s163, s164, s165, s166, s167, s168, s169, s170, s171, s172, s173, s174, s175, s176, s177, s178, s179, s180, s181, s182, s183, s184, s185, s186, s187, s188, s189, s190, s191, s192, s193, s194, s195, s196, s197, s198, s199, s200, s201, s202, s203, s204, s205, s206, s207, s208, s209, s210, s211, s212, s213, s214, s215, s216, s217, s218, s219, s220, s221, s222, s223, s224, s225, s226, s227, s228, s229, s230, s231, s232, s233, s234, s235, s236, s237, s238, s239, s240, s241, s242, s243, s244, s245, s246, s247, s248, s249, s250, s251, s252, s253, s254, s255, s256, s257, s258, s259, s260, s261, s262, s263, s264, s265, s266, s267, s268, s269, s270, s271, s272, s273, s274, s275, s276, s277, s278, s279, s280, s281, s282, s283, s284, s285, s286, s287, s288, s289, s290, s291, s292, s293, s294, s295, s296, s297, s298, s299, s300, s301, s302, s303, s304, s305, s306, s307, s308, s309, s310, s311, s312, s313, s314, s315, s316, s317, s318, s319, s320, s321, s322, s323, s324], []⟩ W := by
 have HB := H9 hB
 unfold pktRow at kR
 replace kR := H9 kR
 clear hB
 have hq := H9 h
 clear h
 conv => arg 2; whnf
 refine wp_region_held_drew (S := fun w' => Below W.heap.size W w') (by kernel_rfl) (Below.drew (Below.refl _ _)) (fun qH => ?_)
 obtain ⟨X, hX⟩ : ∃ X, X = W.drew := ⟨_, rfl⟩
 rw [← hX] at qH ⊢
 clear hX
 refine tk1 (i := 0) (v := .agg (PA u A n c)) rfl (zbi rfl 48 (.tmp 12) rfl g 0 rfl 48 (PL u A n c) (fun w h => HB.out.later h) 48 _ Tryz.underlying48 zag (Nat.le_refl 48) _ rfl rfl) qH ?_ (hQ := q9 hQp)
 try simp only [ss9]
 refine tk1 (i := 1) (v := ?_) rfl (Or.inl ⟨by rfl, ?_⟩) qH ?_ (hQ := q9 hQp)
 rotate_left
 · (intro w hSw; clear hSw; go_simp; try with_reducible rfl)
 try simp only [ss9]
 refine tk1 (i := 2) (v := ?_) rfl (Or.inl ⟨by rfl, ?_⟩) qH ?_ (hQ := q9 hQp)
 rotate_left
 · (intro w hSw; clear hSw; go_simp; try with_reducible rfl)
 try simp only [ss9]
 refine tk1 (i := 3) (v := ?_) rfl (Or.inl ⟨by rfl, ?_⟩) qH ?_ (hQ := q9 hQp)
 rotate_left
 · (intro w hSw; clear hSw; go_simp; try with_reducible rfl)
 try simp only [ss9]
 refine tk1 (i := 4) (v := ?_) rfl (Or.inl ⟨by rfl, ?_⟩) qH ?_ (hQ := q9 hQp)
 rotate_left
 · (intro w hSw; have c0 := zai hSw x0; have c1 := zai hSw x1; have c2 := zai hSw x2; have c3 := zai hSw x3; have c4 := zai hSw x4; have c5 := zai hSw x5; have c6 := zai hSw x6; have c7 := zai hSw x7; have c8 := zai hSw x8; have c9 := zai hSw x9; have c10 := zai hSw x10; clear hSw; go_simp; try with_reducible rfl)
 try simp only [ss9]
 all_goals try
  fail_if_success (have hx := HD)
  refine wpAnyH_ready (rs := [5, 11]) (by kernel_rfl) (by simp) ?_
  refine AllReadyH.cons (o := _) rfl (fun K hK => ?_) (AllReadyH.cons (o := _) rfl (fun K hK => ?_) AllReadyH.nil)
  rotate_left
  go_simp
  have HD : Hid (Blk (X.alloc (Obj.cells #[.int .u8 0, .int .u32 0, .int .u16 0, .int .u32 0, .bool false, .int .i64 0, .int .i64 0, .int .i64 0, .bool false, .int .u8 0, .int .u8 0, .int .u32 0, .int .i64 0, .int .i64 0, .int .i64 0, .int .i64 0, .int .i64 0, .bool false, .int .i64 0, .int .i64 0, .int .i64 0, .int .i64 0, .int .i64 0, .int .i64 0, .slice none 0 0, .int .i64 0, .int .i64 0, .int .i64 0, .bool false, .int .i64 0, .int .i64 0, .int .i64 0, .bool false, .int .i64 0, .int .i64 0, .int .i64 0, .int .i64 0, .int .i64 0, .int .i64 0, .int .i64 0, .bool false, .int .u32 0, .int .u8 0, .int .i64 0, .bool false, .int .u32 0, .int .u32 0, .int .u32 0] 48)) X.heap.size 48 (PL Sb.Pt.zero none 0 0).toArray) := H9 (Blk.new _ _ _)
  have hg8 : W.heap.size ≤ X.heap.size := qH.size
  obtain ⟨g8, hgg⟩ : ∃ g, g = X.heap.size := ⟨_, rfl⟩
  refine hK.out _ _ ?_ (fun qH => ?_)
  · exact zam qH _
  clear hK K
  try simp only [ss9]
  rw [← hgg] at HD hg8 ⊢
  have HGG := H9 hgg
  clear hgg
  obtain ⟨Y, hY⟩ : ∃ V, V = X.alloc (Obj.cells #[.int .u8 0, .int .u32 0, .int .u16 0, .int .u32 0, .bool false, .int .i64 0, .int .i64 0, .int .i64 0, .bool false, .int .u8 0, .int .u8 0, .int .u32 0, .int .i64 0, .int .i64 0, .int .i64 0, .int .i64 0, .int .i64 0, .bool false, .int .i64 0, .int .i64 0, .int .i64 0, .int .i64 0, .int .i64 0, .int .i64 0, .slice none 0 0, .int .i64 0, .int .i64 0, .int .i64 0, .bool false, .int .i64 0, .int .i64 0, .int .i64 0, .bool false, .int .i64 0, .int .i64 0, .int .i64 0, .int .i64 0, .int .i64 0, .int .i64 0, .int .i64 0, .bool false, .int .u32 0, .int .u8 0, .int .i64 0, .bool false, .int .u32 0, .int .u32 0, .int .u32 0] 48) := ⟨_, rfl⟩
  rw [← hY] at HD qH ⊢
  clear hY
  obtain ⟨X, hX⟩ : ∃ X, X = Y := ⟨_, rfl⟩
  subst hX
 all_goals try
  refine wpAnyH_ready (rs := [5]) (by kernel_rfl) (by simp) ?_
  refine AllReadyH.cons (o := _) rfl (fun K hK => ?_) AllReadyH.nil
 all_goals
  go_simp
  try have HCS := H9 HD.out.lt
  have hlo := qH.size
  refine (kR.out _ qH).mono ?_
  rintro e X ⟨A', n', c', l', SA, sc, m, ls, rfl, hq1, hn, hc1, hc2, hW, hls, hlm, hso, hb2⟩
  have HW := H9 hW
  have HSD := H9 hso.in_
  have HQ1 := H9 hq1
  have HLS := H9 hls
  clear hq1 hW hls hso
  try replace HD := H9 (HD.out.later hb2)
  refine hK.out _ _ ?_ (fun qH => ?_)
  · exact zal hb2 qH
  clear hK K hb2
  try simp only [ss9]
 all_goals
  refine tk1 (i := 6) (v := ?_) rfl (Or.inl ⟨by rfl, ?_⟩) qH ?_ (hQ := q9 hQp)
  rotate_left
  · (intro w hSw; clear hSw; go_simp; try with_reducible rfl)
  try simp only [ss9]
  refine tk1 (i := 7) (v := ?_) rfl (Or.inl ⟨by rfl, ?_⟩) qH ?_ (hQ := q9 hQp)
  rotate_left
  · (intro w hSw; clear hSw; go_simp; try with_reducible rfl)
  try simp only [ss9]
  refine tk1 (i := 8) (v := ?_) rfl (Or.inl ⟨by rfl, ?_⟩) qH ?_ (hQ := q9 hQp)
  rotate_left
  · (intro w hSw; clear hSw; go_simp; try with_reducible rfl)
  try simp only [ss9]
  refine tk1 (i := 9) (v := ?_) rfl (Or.inl ⟨by rfl, ?_⟩) qH ?_ (hQ := q9 hQp)
  rotate_left
  · (intro w hSw; clear hSw; go_simp; try with_reducible rfl)
  try simp only [ss9]
  refine tk1 (i := 10) (v := ?_) rfl (Or.inl ⟨by rfl, ?_⟩) qH ?_ (hQ := q9 hQp)
  rotate_left
  · (intro w hSw; clear hSw; go_simp; try with_reducible rfl)
  try simp only [ss9]
 all_goals try
  fail_if_success (have hx := HD)
  refine wpAnyH_ready (rs := [11]) (by kernel_rfl) (by simp) ?_
  refine AllReadyH.cons (o := _) rfl (fun K hK => ?_) AllReadyH.nil
  go_simp
  have HD : Hid (Blk (X.alloc (Obj.cells #[.int .u8 0, .int .u32 0, .int .u16 0, .int .u32 0, .bool false, .int .i64 0, .int .i64 0, .int .i64 0, .bool false, .int .u8 0, .int .u8 0, .int .u32 0, .int .i64 0, .int .i64 0, .int .i64 0, .int .i64 0, .int .i64 0, .bool false, .int .i64 0, .int .i64 0, .int .i64 0, .int .i64 0, .int .i64 0, .int .i64 0, .slice none 0 0, .int .i64 0, .int .i64 0, .int .i64 0, .bool false, .int .i64 0, .int .i64 0, .int .i64 0, .bool false, .int .i64 0, .int .i64 0, .int .i64 0, .int .i64 0, .int .i64 0, .int .i64 0, .int .i64 0, .bool false, .int .u32 0, .int .u8 0, .int .i64 0, .bool false, .int .u32 0, .int .u32 0, .int .u32 0] 48)) X.heap.size 48 (PL Sb.Pt.zero none 0 0).toArray) := H9 (Blk.new _ _ _)
  have hg8 : W.heap.size ≤ X.heap.size := qH.size
  obtain ⟨g8, hgg⟩ : ∃ g, g = X.heap.size := ⟨_, rfl⟩
  replace HW := H9 (HW.out.below ((Below.refl _ _).alloc (Nat.le_refl _) (Obj.cells #[.int .u8 0, .int .u32 0, .int .u16 0, .int .u32 0, .bool false, .int .i64 0, .int .i64 0, .int .i64 0, .bool false, .int .u8 0, .int .u8 0, .int .u32 0, .int .i64 0, .int .i64 0, .int .i64 0, .int .i64 0, .int .i64 0, .bool false, .int .i64 0, .int .i64 0, .int .i64 0, .int .i64 0, .int .i64 0, .int .i64 0, .slice none 0 0, .int .i64 0, .int .i64 0, .int .i64 0, .bool false, .int .i64 0, .int .i64 0, .int .i64 0, .bool false, .int .i64 0, .int .i64 0, .int .i64 0, .int .i64 0, .int .i64 0, .int .i64 0, .int .i64 0, .bool false, .int .u32 0, .int .u8 0, .int .i64 0, .bool false, .int .u32 0, .int .u32 0, .int .u32 0] 48)) (Nat.le_refl _))
  replace HSD := H9 (HSD.out.below ((Below.refl _ _).alloc (Nat.le_refl _) (Obj.cells #[.int .u8 0, .int .u32 0, .int .u16 0, .int .u32 0, .bool false, .int .i64 0, .int .i64 0, .int .i64 0, .bool false, .int .u8 0, .int .u8 0, .int .u32 0, .int .i64 0, .int .i64 0, .int .i64 0, .int .i64 0, .int .i64 0, .bool false, .int .i64 0, .int .i64 0, .int .i64 0, .int .i64 0, .int .i64 0, .int .i64 0, .slice none 0 0, .int .i64 0, .int .i64 0, .int .i64 0, .bool false, .int .i64 0, .int .i64 0, .int .i64 0, .bool false, .int .i64 0, .int .i64 0, .int .i64 0, .int .i64 0, .int .i64 0, .int .i64 0, .int .i64 0, .bool false, .int .u32 0, .int .u8 0, .int .i64 0, .bool false, .int .u32 0, .int .u32 0, .int .u32 0] 48)) (Nat.le_refl _))
  refine hK.out _ _ ?_ (fun qH => ?_)
  · exact zam qH _
  clear hK K
  try simp only [ss9]
  rw [← hgg] at HD hg8 ⊢
  have HGG := H9 hgg
  clear hgg
  obtain ⟨Y, hY⟩ : ∃ V, V = X.alloc (Obj.cells #[.int .u8 0, .int .u32 0, .int .u16 0, .int .u32 0, .bool false, .int .i64 0, .int .i64 0, .int .i64 0, .bool false, .int .u8 0, .int .u8 0, .int .u32 0, .int .i64 0, .int .i64 0, .int .i64 0, .int .i64 0, .int .i64 0, .bool false, .int .i64 0, .int .i64 0, .int .i64 0, .int .i64 0, .int .i64 0, .int .i64 0, .slice none 0 0, .int .i64 0, .int .i64 0, .int .i64 0, .bool false, .int .i64 0, .int .i64 0, .int .i64 0, .bool false, .int .i64 0, .int .i64 0, .int .i64 0, .int .i64 0, .int .i64 0, .int .i64 0, .int .i64 0, .bool false, .int .u32 0, .int .u8 0, .int .i64 0, .bool false, .int .u32 0, .int .u32 0, .int .u32 0] 48) := ⟨_, rfl⟩
  rw [← hY] at HD qH HW HSD ⊢
  clear hY
  obtain ⟨X, hX⟩ : ∃ X, X = Y := ⟨_, rfl⟩
  subst hX
 all_goals
  refine wpAnyH_ready (rs := [12]) (by kernel_rfl) (by simp) ?_
  refine AllReadyH.cons (o := _) rfl (fun K hK => ?_) AllReadyH.nil
  refine zap rfl 48 (.tmp 34) (.tmp 202) rfl g8 0 rfl 48 _ HD.out (PL R.1 A' n' c') rfl zag (Nat.le_refl 48) rfl (PL R.1 A' n' c') rfl ?_
  intro WF BF OF
  have HF := OF.bel (show Bel W X from qH) hg8
  refine hK.out _ _ HF (fun qH => ?_)
  clear hK K
  try simp only [ss9]
  refine tk1 (i := 13) (v := ?_) rfl (Or.inl ⟨by rfl, ?_⟩) qH ?_ (hQ := q9 hQp)
  rotate_left
  · (intro w hSw; clear hSw; go_simp; try with_reducible rfl)
  try simp only [ss9]
  refine tk1 (i := 14) (v := ?_) rfl (Or.inl ⟨by rfl, ?_⟩) qH ?_ (hQ := q9 hQp)
  rotate_left
  · (intro w hSw; clear hSw; go_simp; try with_reducible rfl)
  try simp only [ss9]
  refine tk1 (i := 15) (v := ?_) rfl (Or.inl ⟨by rfl, ?_⟩) qH ?_ (hQ := q9 hQp)
  rotate_left
  · (intro w hSw; clear hSw; go_simp; try with_reducible rfl)
  try simp only [ss9]
  refine wpAnyH_done (by kernel_rfl) ?_ _
  exact hq.out WF g8 SA sc m A' n' c' l' ls _ _ _ _ _ _ _ _ _ _ _ (H9 BF) HQ1 hn hc1 hc2 (H9 (((HW.out.onlyN OF (by first | exact Or.inl HCS.out | exact Or.inr (by rw [HGG.out]; exact Nat.le_refl _))).more (by rw [OF.2]; first | exact Nat.le_refl _ | (have h1 := HD.out.lt; have h2 := HGG.out; omega))).less hlo)) HLS hlm (H9 (((HSD.out.onlyN OF (by first | exact Or.inl HCS.out | exact Or.inr (by rw [HGG.out]; exact Nat.le_refl _))).more (by rw [OF.2]; first | exact Nat.le_refl _ | (have h1 := HD.out.lt; have h2 := HGG.out; omega))).less hlo)) hg8 (H9 HF)
end Go.Proofs.YtahbecinkciahaaGreat
namespace Go.Proofs.YtahbecinkciahaaGreat
open Go.RowKit
structure PC (w : World) (p : Sb.Pt) (A : Option Addr) (l : List TW) (n c : Nat) : Prop where
 wf : p.wf
 q : l.map TW.w = p.jt.q
 len : l.length = n
 n5 : n ≤ 100000
 cap : n ≤ c
 cm : c ≤ maxLen
 av : Wts w w.heap.size A l
 sq : ∀ a ∈ l, I64 a.w.m.sq
 pay : ∀ a ∈ l, a.w.m.pl.length ≤ 1000000
theorem PC.later {w w' : World} {p : Sb.Pt} {A : Option Addr} {l : List TW} {n c : Nat} (h : PC w p A l n c) (hb : Below w.heap.size w w') : PC w' p A l n c := ⟨h.wf, h.q, h.len, h.n5, h.cap, h.cm, h.av.later hb, h.sq, h.pay⟩
def PortR (q : Sb.Pt) (er : Int) (w : World) (e : Ending) (w' : World) : Prop :=
 ∃ (A' : Option Addr) (n' c' : Nat) (l' : List TW), e = .returned (.tuple #[.agg (PA q A' n' c'), .int .u8 er]) ∧ l'.map TW.w = q.jt.q ∧ l'.length = n' ∧ n' ≤ c' ∧ c' ≤ maxLen ∧ WtsIn w' w.heap.size w'.heap.size A' l' ∧ Below w.heap.size w w'
theorem QOwn.inW {w : World} {base n c : Nat} {A : Option Addr} {l : List TW} (h : QOwn w base A n c l) : WtsIn w base w.heap.size A l :=
 ⟨h.wts, fun h0 b off e => (h.own.block b (by rw [e]; rfl)).1, h.new, h.cap⟩
theorem zks (T : Ev.Snd) : T.row = #[.bool T.on, .int .u8 T.code, .int .u8 T.vol, .int .u32 T.start, .int .i64 T.len, .int .i64 T.ends] := rfl
end Go.Proofs.YtahbecinkciahaaGreat
namespace Go.Proofs.YtahbecinkciahaaGreat
attribute [local go_sem ↓] zab zac
attribute [local go_sem] zaa zad
open Go.RowKit
theorem zeh {w : World} {p : Sb.Pt} {A : Option Addr} {l : List TW} {n c : Nat} {X : Array Value} (C : PC w p A l n c) (hX : X = PA p A n c) (T : Ev.Snd) (er : Int) : Calls Tryz.prog 83 #[.agg X, .agg #[.bool T.on, .int .u8 T.code, .int .u8 T.vol, .int .u32 T.start, .int .i64 T.len, .int .i64 T.ends], .int .u8 er] w (PortR (if er = 0 then { p with tn := T } else Sb.Pt.zero) er w) := by
 have B0 := H9 (((PB.new w X hX).push (.cells #[.bool T.on, .int .u8 T.code, .int .u8 T.vol, .int .u32 T.start, .int .i64 T.len, .int .i64 T.ends] 35)).push (.cells (PA Sb.Pt.zero none 0 0) 48))
 have BT := H9 ((Blk.new1 w (.cells X 48) 35 #[.bool T.on, .int .u8 T.code, .int .u8 T.vol, .int .u32 T.start, .int .i64 T.len, .int .i64 T.ends]).push (.cells (PA Sb.Pt.zero none 0 0) 48))
 have BR := H9 (Blk.new2 w (.cells X 48) (.cells #[.bool T.on, .int .u8 T.code, .int .u8 T.vol, .int .u32 T.start, .int .i64 T.len, .int .i64 T.ends] 35) 48 (PA Sb.Pt.zero none 0 0))
 have U0 := H9 ((((Bel.refl w).push (.cells X 48)).push (.cells #[.bool T.on, .int .u8 T.code, .int .u8 T.vol, .int .u32 T.start, .int .i64 T.len, .int .i64 T.ends] 35)).push (.cells (PA Sb.Pt.zero none 0 0) 48))
 have k2 := H9 fun (W : World) hW => zde p.jt A l n c W C.len C.n5 hW C.pay
 unfold CopyR at k2
 rw [C.len] at k2
 clear hX
 go_enter Tryz.func83, Tryz.ntmps83
 go_upto_region 1 with fail
 change Code.wp _ _ _ _ (((w.alloc (Obj.cells X 48)).alloc (Obj.cells #[.bool T.on, .int .u8 T.code, .int .u8 T.vol, .int .u32 T.start, .int .i64 T.len, .int .i64 T.ends] 35)).alloc (Obj.cells (PA Sb.Pt.zero none 0 0) 48))
 obtain ⟨W, hW⟩ : ∃ W, W = ((w.alloc (Obj.cells X 48)).alloc (Obj.cells #[.bool T.on, .int .u8 T.code, .int .u8 T.vol, .int .u32 T.start, .int .i64 T.len, .int .i64 T.ends] 35)).alloc (Obj.cells (PA Sb.Pt.zero none 0 0) 48) := ⟨_, rfl⟩
 rw [← hW] at B0 BT BR U0 ⊢
 clear hW
 by_cases he : er = 0
 rotate_left
 · rw [if_neg he]
   have hL := BR.out.lt
   go_wp2_with (first | (refine zaf rfl 48 (.tmp 6) (.tmp 10) rfl (w.heap.size + 1 + 1) 0 rfl 48 (PL Sb.Pt.zero none 0 0) BR.out (PL Sb.Pt.zero none 0 0) rfl zag (show 0 + 48 ≤ 48 by decide) rfl (PL Sb.Pt.zero none 0 0) rfl ?_; intro WH BH OH) | fail)
   exact bodyPost_ret (v := .tuple #[.agg (PA Sb.Pt.zero none 0 0), .int .u8 er]) (zbt Tryz.results83 rfl (PB.load (p := Sb.Pt.zero) (A := none) (n := 0) (c := 0) BH) rfl) rfl ⟨none, 0, 0, [], rfl, rfl, rfl, Nat.le_refl _, Nat.zero_le _, WtsIn.empty, OH.bel U0.out (by omega)⟩
 subst he
 rw [if_pos rfl]
 go_upto_region 3 with fail
 go_wp2_with (first | (refine zae rfl 40 (.tmp 12) rfl (w.heap.size) 14 rfl 48 (PL p A n c) B0.out 14 _ Tryz.underlying40 zbh (show 14 + 14 ≤ 48 by decide) (#[.int .i64 p.jt.least, .int .i64 p.jt.most, .int .i64 p.jt.now, .bool p.jt.on, .int .i64 p.jt.zero, .int .i64 p.jt.first, .int .i64 p.jt.high, .int .i64 p.jt.done, .int .i64 p.jt.spread, .int .i64 p.jt.trans, .slice A n c, .int .i64 p.jt.late, .int .i64 p.jt.twice, .int .i64 p.jt.played]) (by rfl) rfl ?_) | fail)
 have hL1 := BR.out.lt
 refine (k2.out _ (C.av.later U0.out)).mono ?_
 rintro e w2 ⟨A2, c2, l2, rfl, hm2, hQ2, hb1⟩
 have hs2 := hb1.size
 replace U0 := H9 (U0.out.later hb1)
 replace B0 := H9 (B0.out.later hb1)
 replace BT := H9 (BT.out.later hb1)
 replace BR := H9 (BR.out.later hb1)
 clear hb1 k2
 go_upto_region 4 with (first | (refine zaf rfl 40 (.tmp 15) (.tmp 14) rfl (w.heap.size) 14 rfl 48 (PL p A n c) B0.out (JW p.jt A2 n c2) rfl zbh (show 14 + 14 ≤ 48 by decide) rfl (PL p A2 n c2) rfl ?_; intro WF BF OF) | fail)
 replace hQ2 := hQ2.only OF (by omega)
 have HQL := H9 (show l2.map TW.w = p.jt.q from hm2.trans C.q)
 replace BT := H9 (OF.blk BT.out (by omega))
 replace BR := H9 (OF.blk BR.out (by omega))
 replace U0 := H9 (OF.bel U0.out (Nat.le_refl _))
 replace B0 := H9 BF
 clear BF OF hm2
 go_upto_region 5 with (first | (refine zae rfl 35 (.tmp 4) rfl (w.heap.size + 1) 0 rfl 35 ([.bool T.on, .int .u8 T.code, .int .u8 T.vol, .int .u32 T.start, .int .i64 T.len, .int .i64 T.ends]) BT.out 6 _ Tryz.underlying35 zcd (show 0 + 6 ≤ 6 by decide) (#[.bool T.on, .int .u8 T.code, .int .u8 T.vol, .int .u32 T.start, .int .i64 T.len, .int .i64 T.ends]) (by rfl) rfl ?_) | (refine zaf rfl 35 (.tmp 17) (.tmp 16) rfl (w.heap.size) 8 rfl 48 (PL p A2 n c2) B0.out ([.bool T.on, .int .u8 T.code, .int .u8 T.vol, .int .u32 T.start, .int .i64 T.len, .int .i64 T.ends]) rfl zcd (show 8 + 6 ≤ 48 by decide) rfl (PL { p with tn := T } A2 n c2) rfl ?_; intro WG BG OG) | fail)
 replace hQ2 := hQ2.only OG (by omega)
 replace BR := H9 (OG.blk BR.out (by omega))
 replace U0 := H9 (OG.bel U0.out (Nat.le_refl _))
 replace B0 := H9 BG
 clear BG OG BT
 go_wp2_with (first | (refine zae rfl 48 (.tmp 3) rfl (w.heap.size) 0 rfl 48 (PL { p with tn := T } A2 n c2) B0.out 48 _ Tryz.underlying48 zag (show 0 + 48 ≤ 48 by decide) (PA { p with tn := T } A2 n c2) (by rfl) rfl ?_) | (refine zaf rfl 48 (.tmp 6) (.tmp 18) rfl (w.heap.size + 1 + 1) 0 rfl 48 (PL Sb.Pt.zero none 0 0) BR.out (PL { p with tn := T } A2 n c2) rfl zag (show 0 + 48 ≤ 48 by decide) rfl (PL { p with tn := T } A2 n c2) rfl ?_; intro WH BH OH) | fail)
 replace hQ2 := hQ2.only OH (by omega)
 exact bodyPost_ret (v := .tuple #[.agg (PA { p with tn := T } A2 n c2), .int .u8 0]) (zbt Tryz.results83 rfl (PB.load BH) rfl) rfl ⟨A2, n, c2, l2, rfl, HQL.out, hQ2.len, hQ2.capm.1, hQ2.capm.2, hQ2.inW.less (by omega), OH.bel U0.out (by omega)⟩
theorem zmp {w : World} {p : Sb.Pt} {A : Option Addr} {l : List TW} {n c : Nat} {X : Array Value} (C : PC w p A l n c) (hX : X = PA p A n c) (code : Int) : Calls Tryz.prog 26 #[.agg X, .int .u8 code] w (PortR (Sb.press p code).1 (Sb.press p code).2 w) := by
 have B0 := H9 ((PB.new w X hX).push (.cells (PA Sb.Pt.zero none 0 0) 48))
 have BR := H9 (Blk.new1 w (.cells X 48) 48 (PA Sb.Pt.zero none 0 0))
 have U0 := H9 (((Bel.refl w).push (.cells X 48)).push (.cells (PA Sb.Pt.zero none 0 0) 48))
 obtain ⟨v, hv⟩ : ∃ v, v = p.valid := ⟨_, rfl⟩
 have k1 := H9 fun (W : World) hW => zdb p C.wf A l n c (PA p A n c) rfl W C.q C.len C.n5 hW C.sq v hv
 have k2 : ∀ W, Calls Tryz.prog 82 #[.agg #[.bool p.tn.on, .int .u8 p.tn.code, .int .u8 p.tn.vol, .int .u32 p.tn.start, .int .i64 p.tn.len, .int .i64 p.tn.ends], .int .u8 code, .int .u8 10, .int .u32 p.time] W fun e w' => e = .returned (.tuple #[.agg (Ev.press p.tn code 10 p.time).1.row, .int .u8 (Ev.press p.tn code 10 p.time).2]) ∧ Below W.heap.size W w' := fun W => zob p.tn.on p.tn.code p.tn.vol p.tn.start p.tn.len p.tn.ends code 10 p.time W
 obtain ⟨R, hR⟩ : ∃ R, R = Sb.press p code := ⟨_, rfl⟩
 rw [← hR]
 have HR := H9 hR
 have HV := H9 hv
 clear hX hv hR
 go_enter Tryz.func26, Tryz.ntmps26
 go_upto_region 1 with fail
 change Code.wp _ _ _ _ ((w.alloc (Obj.cells X 48)).alloc (Obj.cells (PA Sb.Pt.zero none 0 0) 48))
 obtain ⟨W, hW⟩ : ∃ W, W = (w.alloc (Obj.cells X 48)).alloc (Obj.cells (PA Sb.Pt.zero none 0 0) 48) := ⟨_, rfl⟩
 rw [← hW] at B0 BR U0 ⊢
 clear hW
 go_wp2_with (first | (refine zae rfl 48 (.tmp 2) rfl (w.heap.size) 0 rfl 48 (PL p A n c) B0.out 48 _ Tryz.underlying48 zag (show 0 + 48 ≤ 48 by decide) (PA p A n c) (by rfl) rfl ?_) | fail)
 refine (k1.out _ (C.av.later U0.out)).mono ?_
 rintro e w1 ⟨rfl, hb1⟩
 replace U0 := H9 (U0.out.later hb1)
 replace B0 := H9 (B0.out.later hb1)
 replace BR := H9 (BR.out.later hb1)
 clear hb1 k1
 have hL := BR.out.lt
 cases v
 · obtain rfl : R = (Sb.Pt.zero, 2) := by rw [HR.out]; unfold Sb.press; rw [if_pos HV.out.symm]
   go_wp2_with (first | (refine zaf rfl 48 (.tmp 4) (.tmp 11) rfl (w.heap.size + 1) 0 rfl 48 (PL Sb.Pt.zero none 0 0) BR.out (PL Sb.Pt.zero none 0 0) rfl zag (show 0 + 48 ≤ 48 by decide) rfl (PL Sb.Pt.zero none 0 0) rfl ?_; intro WH BH OH) | fail)
   exact bodyPost_ret (v := .tuple #[.agg (PA Sb.Pt.zero none 0 0), .int .u8 2]) (zbt Tryz.results26 rfl (PB.load (p := Sb.Pt.zero) (A := none) (n := 0) (c := 0) BH) rfl) rfl ⟨none, 0, 0, [], rfl, rfl, rfl, Nat.le_refl _, Nat.zero_le _, WtsIn.empty, OH.bel U0.out (by omega)⟩
 by_cases h15 : 15 < code
 · obtain rfl : R = (Sb.Pt.zero, 3) := by rw [HR.out]; unfold Sb.press; rw [if_neg (by rw [← HV.out]; decide), if_pos h15]
   go_wp2_with (first | (refine zaf rfl 48 (.tmp 4) (.tmp 14) rfl (w.heap.size + 1) 0 rfl 48 (PL Sb.Pt.zero none 0 0) BR.out (PL Sb.Pt.zero none 0 0) rfl zag (show 0 + 48 ≤ 48 by decide) rfl (PL Sb.Pt.zero none 0 0) rfl ?_; intro WH BH OH) | fail)
   exact bodyPost_ret (v := .tuple #[.agg (PA Sb.Pt.zero none 0 0), .int .u8 3]) (zbt Tryz.results26 rfl (PB.load (p := Sb.Pt.zero) (A := none) (n := 0) (c := 0) BH) rfl) rfl ⟨none, 0, 0, [], rfl, rfl, rfl, Nat.le_refl _, Nat.zero_le _, WtsIn.empty, OH.bel U0.out (by omega)⟩
 have hRR : R = (if (Ev.press p.tn code 10 p.time).2 = 0 then { p with tn := (Ev.press p.tn code 10 p.time).1 } else Sb.Pt.zero, (Ev.press p.tn code 10 p.time).2) := by
  rw [HR.out]; unfold Sb.press; rw [if_neg (by rw [← HV.out]; decide), if_neg h15]
  split
  · rename_i h0; rw [h0]
  · rfl
 have HRR := H9 hRR
 clear hRR
 generalize Ev.press p.tn code 10 p.time = TT at *
 obtain ⟨T, er⟩ := TT
 simp only at HRR k2
 rw [zks T] at k2
 replace k2 := H9 k2
 have hwt := H9 fun (W : World) (hb : Below w.heap.size w W) => zeh (C.later hb) rfl T er
 unfold PortR at hwt
 rw [HRR.out]
 generalize (if er = 0 then { p with tn := T } else Sb.Pt.zero) = q at *
 have x3 := B0.out.cell 3 _ rfl
 go_upto_region 5 with fail
 go_wp2_with (first | (refine zae rfl 35 (.tmp 16) rfl (w.heap.size) 8 rfl 48 (PL p A n c) B0.out 6 _ Tryz.underlying35 zcd (show 8 + 6 ≤ 48 by decide) (#[.bool p.tn.on, .int .u8 p.tn.code, .int .u8 p.tn.vol, .int .u32 p.tn.start, .int .i64 p.tn.len, .int .i64 p.tn.ends]) (by rfl) rfl ?_) | fail)
 refine (k2.out _).mono ?_
 rintro e w2 ⟨rfl, hb1⟩
 replace U0 := H9 (U0.out.later hb1)
 replace B0 := H9 (B0.out.later hb1)
 replace BR := H9 (BR.out.later hb1)
 clear hb1 k2
 try clear x3
 have BT := H9 (Blk.new w2 35 #[.bool T.on, .int .u8 T.code, .int .u8 T.vol, .int .u32 T.start, .int .i64 T.len, .int .i64 T.ends])
 replace U0 := H9 (U0.out.push (.cells #[.bool T.on, .int .u8 T.code, .int .u8 T.vol, .int .u32 T.start, .int .i64 T.len, .int .i64 T.ends] 35))
 replace B0 := H9 (PB.push B0.out (.cells #[.bool T.on, .int .u8 T.code, .int .u8 T.vol, .int .u32 T.start, .int .i64 T.len, .int .i64 T.ends] 35))
 have hL2 := BR.out.lt
 replace BR := H9 (BR.out.push (.cells #[.bool T.on, .int .u8 T.code, .int .u8 T.vol, .int .u32 T.start, .int .i64 T.len, .int .i64 T.ends] 35))
 obtain ⟨gt, hgt⟩ : ∃ g, g = w2.heap.size := ⟨_, rfl⟩
 obtain ⟨W3, hW3⟩ : ∃ V, V = w2.alloc (Obj.cells #[.bool T.on, .int .u8 T.code, .int .u8 T.vol, .int .u32 T.start, .int .i64 T.len, .int .i64 T.ends] 35) := ⟨_, rfl⟩
 rw [← hgt, ← hW3] at BT
 go_upto_region 6 with fail
 rw [← hgt]
 rw [← hW3] at U0 B0 BR ⊢
 clear hW3 hgt
 go_wp2_with (first | (refine zae rfl 48 (.tmp 2) rfl (w.heap.size) 0 rfl 48 (PL p A n c) B0.out 48 _ Tryz.underlying48 zag (show 0 + 48 ≤ 48 by decide) (PA p A n c) (by rfl) rfl ?_) | (refine zae rfl 35 (.tmp 6) rfl (gt) 0 rfl 35 ([.bool T.on, .int .u8 T.code, .int .u8 T.vol, .int .u32 T.start, .int .i64 T.len, .int .i64 T.ends]) BT.out 6 _ Tryz.underlying35 zcd (show 0 + 6 ≤ 6 by decide) (#[.bool T.on, .int .u8 T.code, .int .u8 T.vol, .int .u32 T.start, .int .i64 T.len, .int .i64 T.ends]) (by rfl) rfl ?_) | fail)
 refine (hwt.out _ U0.out).mono ?_
 rintro e w4 ⟨A4, n4, c4, l4, rfl, e1, e2, e3, e4, e5, hb1⟩
 have hL4 := BR.out.lt
 replace U0 := H9 (U0.out.later hb1)
 replace B0 := H9 (B0.out.later hb1)
 replace BR := H9 (BR.out.later hb1)
 clear hb1 hwt BT
 go_wp2_with (first | (refine zaf rfl 48 (.tmp 4) (.tmp 28) rfl (w.heap.size + 1) 0 rfl 48 (PL Sb.Pt.zero none 0 0) BR.out (PL q A4 n4 c4) rfl zag (show 0 + 48 ≤ 48 by decide) rfl (PL q A4 n4 c4) rfl ?_; intro WH BH OH) | fail)
 rw [HRR.out]
 exact bodyPost_ret (v := .tuple #[.agg (PA q A4 n4 c4), .int .u8 er]) (zbt Tryz.results26 rfl (PB.load BH) rfl) rfl ⟨A4, n4, c4, l4, rfl, e1, e2, e3, e4, (e5.step OH (by omega)).less (by omega), OH.bel U0.out (by omega)⟩
noncomputable def en14_code : Code := ((Tryz.f6.body.bind (findRegS 14)).getD .skip)
theorem zos {s0 s1 s3 s4 s5 s6 s7 s8 s9 s11 s12 s13 s14 s15 s16 s17 s18 s20 s21 s22 s23 s24 s25 s26 s27 s28 s29 s30 s31 s32 s33 s34 s35 s36 s37 s38 s39 s40 s41 s42 s43 s44 s45 s46 s47 s48 s49 s50 s51 s52 s53 s54 s55 s56 s57 s58 s59 s60 s61 s62 s63 s64 s65 s66 s67 s68 s69 s70 s71 s72 s73 s74 s75 s76 s77 s78 s79 s80 s81 s82 s83 s84 s85 s86 s87 s88 s89 s90 s91 s92 s93 s94 s95 s96 s97 s98 s99 s100 s101 s102 s103 s104 s105 s106 s107 s108 s109 s110 s111 s112 s113 s114 s115 s116 s117 s118 s119 s120 s121 s122 s123 s124 s125 s126 s127 s128 s129 s130 s131 s132 s133 s134 s135 s136 s137 s138 s139 s140 s141 s142 s143 s144 s145 s146 s147 s148 s149 s150 s151 s152 s153 s154 s155 s156 s157 s158 s159 s160 s161 s162 s163 s164 s165 s166 s167 s168 s169 s170 s171 s172 s173 s174 s175 s176 s177 s178 s179 s180 s181 s182 s183 s184 s185 s186 s187 s188 s189 s190 s191 s192 s193 s194 s195 s196 s197 s198 s199 s200 s201 s202 s203 s204 s205 s206 s207 s208 s209 s210 s211 s212 s213 s214 s215 s216 s217 s218 s219 s220 s221 s222 s223 s224 s225 s226 s227 s228 s229 s230 s231 s232 s233 s234 s235 s236 s237 s238 s239 s240 s241 s242 s243 s244 s245 s246 s247 s248 s249 s250 s251 s252 s253 s254 s255 s256 s257 s258 s259 s260 s261 s262 s263 s264 s265 s266 s267 s268 s269 s270 s271 s272 s273 s274 s275 s276 s277 s278 s279 s280 s281 s282 s283 s284 s285 s286 s287 s288 s289 s290 s291 s292 s293 s294 s295 s296 s297 s298 s299 s300 s301 s302 s303 s304 s305 s306 s307 s308 s309 s310 s311 s312 s313 s314 s315 s316 s317 s318 s319 s320 s321 s322 s323 s324 : Value} {Q : Exit → Act → World → Prop} (g bL oL ln lc k : Nat) (hk1 : k < ln) (hkm : k ≤ 60) (code : Int) (k0 : 0 ≤ code) (p : Sb.Pt) (A : Option Addr) (c : Nat) (R : Sb.Pt × Int) (W : World) (xl : W.cell? ⟨bL, oL + k * 5 + 2, none⟩ = some (.int .u8 code)) (hB : PB W g p A 0 c) (hj : R.1.jt.q = []) (kP : ∀ V : World, Below W.heap.size W V → Calls Tryz.prog 26 #[.agg (PA p A 0 c), .int .u8 (Int.tmod code 16)] V (PortR R.1 R.2 V)) (hQp : ∀ (ch : _) (a : Act) (d : Tmp) (u : Value) (w : World), Q (.panic ch) (a.put (some d) u) w → Q (.panic ch) a w)
 (h : ∀ (wx : World) (g3 : Nat) (A' : Option Addr) (c' : Nat) (u75 u76 u77 u78 u79 u80 u81 u82 u83 u84 u85 : Value), Hid (PB wx g3 R.1 A' 0 c') → c' ≤ maxLen → W.heap.size ≤ g3 → Hid (Below W.heap.size W wx) → Q .normal ⟨#[s0, s1, .slice (some ⟨bL, oL, none⟩) ln lc, s3, s4, s5, s6, s7, s8, s9, .pointer (some ⟨g, 0, none⟩), s11, s12, s13, s14, s15, s16, s17, s18, .int .i64 (k : Int), .pointer (some ⟨g3, 0, none⟩), .int .u8 R.2, s22, s23, s24, s25, s26, s27, s28, s29, s30, s31, s32, s33, s34, s35, s36, s37, s38, s39, s40, s41, s42, s43, s44, s45, s46, s47, s48, s49, s50, s51, s52, s53, s54, s55, s56, s57, s58, s59, s60, s61, s62, s63, s64, s65, s66, s67, s68, s69, s70, s71, s72, s73, s74, u75, u76, u77, u78, u79, u80, u81, u82, u83, u84, u85, s86, s87, s88, s89, s90, s91, s92, s93, s94, s95, s96, s97, s98, s99, s100, s101, s102, s103, s104, s105, s106, s107, s108, s109, s110, s111, s112, s113, s114, s115, s116, s117, s118, s119, s120, s121, s122, s123, s124, s125, s126, s127, s128, s129, s130, s131, s132, s133, s134, s135, s136, s137, s138, s139, s140, s141, s142, s143, s144, s145, s146, s147, s148, s149, s150, s151, s152, s153, s154, s155, s156, s157, s158, s159, s160, s161, s162, s163, s164, s165, s166, s167, s168, s169, s170, s171, s172, s173, s174, s175, s176, s177, s178, s179, s180, s181, s182, s183, s184, s185, s186, s187, s188, s189, s190, s191, s192, s193, s194, s195, s196, s197, s198, s199, s200, s201, s202, s203, s204, s205, s206, s207, s208, s209, s210, s211, s212, s213, s214, s215, s216, s217, s218, s219, s220, s221, s222, s223, s224, s225, s226, s227, s228, s229, s230, s231, s232, s233, s234, s235, s236, s237, s238, s239, s240, s241, s242, s243, s244, s245, s246, s247, s248, s249, s250, s251, s252, s253, s254, s255, s256, s257, s258, s259, s260, s261, s262, s263, s264, s265, s266, s267, s268, s269, s270, s271, s272, s273, s274, s275, s276, s277, s278, s279, s280, s281, s282, s283, s284, s285, s286, s287, s288, s289, s290, s291, s292, s293, s294, s295, s296, s297, s298, s299, s300, s301, s302, s303, s304, s305, s306, s307, s308, s309, s310, s311, s312, s313, s314, s315, s316, s317, s318, s319, s320, s321, s322, s323, s324], []⟩ wx) : en14_code.wp Tryz.prog Q ⟨#[s0, s1, .slice (some ⟨bL, oL, none⟩) ln lc, s3, s4, s5, s6, s7, s8, s9, .pointer (some ⟨g, 0, none⟩), s11, s12, s13, s14, s15, s16, s17, s18, .int .i64 (k : Int), s20, s21, s22, s23, s24, s25, s26, s27, s28, s29, s30, s31, s32, s33, s34, s35, s36, s37, s38, s39, s40, s41, s42, s43, s44, s45, s46, s47, s48, s49, s50, s51, s52, s53, s54, s55, s56, s57, s58, s59, s60, s61, s62, s63, s64, s65, s66, s67, s68, s69, s70, s71, s72, s73, s74, s75, s76, s77, s78, s79, s80, s81, s82, s83, s84, s85, s86, s87, s88, s89, s90, s91, s92, s93, s94, s95, s96, s97, s98, s99, s100, s101, s102, s103, s104, s105, s106, s107, s108, s109, s110, s111, s112, s113, s114, s115, s116, s117, s118, s119, s120, s121, s122, s123, s124, s125, s126, s127, s128, s129, s130, s131, s132, s133, s134, s135, s136, s137, s138, s139, s140, s141, s142, s143, s144, s145, s146, s147, s148, s149, s150, s151, s152, s153, s154, s155, s156, s157, s158, s159, s160, s161, s162, s163, s164, s165, s166, s167, s168, s169, s170, s171, s172, s173, s174, s175, s176, s177, s178, s179, s180, s181, s182, s183, s184, s185, s186, s187, s188, s189, s190, s191, s192, s193, s194, s195, s196, s197, s198, s199, s200, s201, s202, s203, s204, s205, s206, s207, s208, s209, s210, s211, s212, s213, s214, s215, s216, s217, s218, s219, s220, s221, s222, s223, s224, s225, s226, s227, s228, s229, s230, s231, s232, s233, s234, s235, s236, s237, s238, s239, s240, s241, s242, s243, s244, s245, s246, s247, s248, s249, s250, s251, s252, s253, s254, s255, s256, s257, s258, s259, s260, s261, s262, s263, s264, s265, s266, s267, s268, s269, s270, s271, s272, s273, s274, s275, s276, s277, s278, s279, s280, s281, s282, s283, s284, s285, s286, s287, s288, s289, s290, s291, s292, s293, s294, s295, s296, s297, s298, s299, s300, s301, s302, s303, s304, s305, s306, s307, s308, s309, s310, s311, s312, s313, s314, s315, s316, s317, s318, s319, s320, s321, s322, s323, s324], []⟩ W := by
 have HB := H9 hB
 replace kP := H9 kP
 replace hj := H9 hj
 have hi0 : (0 : Int) ≤ (k : Int) := by omega
 have hi1 : (k : Int) < (ln : Int) := by omega
 clear hB
 have hq := H9 h
 clear h
 conv => arg 2; whnf
 refine wp_region_held_drew (S := fun w' => Below W.heap.size W w') (by kernel_rfl) (Below.drew (Below.refl _ _)) (fun qH => ?_)
 obtain ⟨X, hX⟩ : ∃ X, X = W.drew := ⟨_, rfl⟩
 rw [← hX] at qH ⊢
 clear hX
 refine tk1 (i := 0) (v := .agg (PA p A 0 c)) rfl (zbi rfl 48 (.tmp 10) rfl g 0 rfl 48 (PL p A 0 c) (fun w h => HB.out.later h) 48 _ Tryz.underlying48 zag (Nat.le_refl 48) _ rfl rfl) qH ?_ (hQ := q9 hQp)
 try simp only [ss9]
 refine tk1 (i := 1) (v := ?_) rfl (Or.inl ⟨by rfl, ?_⟩) qH ?_ (hQ := q9 hQp)
 rotate_left
 · (intro w hSw; clear hSw; go_simp; try with_reducible rfl)
 try simp only [ss9]
 refine tk1 (i := 2) (v := ?_) rfl (Or.inl ⟨by rfl, ?_⟩) qH ?_ (hQ := q9 hQp)
 rotate_left
 · (intro w hSw; clear hSw; go_simp; try with_reducible rfl)
 try simp only [ss9]
 refine tk1 (i := 3) (v := ?_) rfl (Or.inl ⟨by rfl, ?_⟩) qH ?_ (hQ := q9 hQp)
 rotate_left
 · (intro w hSw; clear hSw; go_simp; try with_reducible rfl)
 try simp only [ss9]
 refine tk1 (i := 4) (v := ?_) rfl (Or.inl ⟨by rfl, ?_⟩) qH ?_ (hQ := q9 hQp)
 rotate_left
 · (intro w hSw; clear hSw; go_simp; try with_reducible rfl)
 try simp only [ss9]
 refine tk1 (i := 5) (v := ?_) rfl (Or.inl ⟨by rfl, ?_⟩) qH ?_ (hQ := q9 hQp)
 rotate_left
 · (intro w hSw; have c0 := zai hSw xl; clear hSw; go_simp; try with_reducible rfl)
 try simp only [ss9]
 refine tk1 (i := 6) (v := ?_) rfl (Or.inl ⟨by rfl, ?_⟩) qH ?_ (hQ := q9 hQp)
 rotate_left
 · (intro w hSw; clear hSw; go_simp; try with_reducible rfl)
 try simp only [ss9]
 all_goals try
  fail_if_success (have hx := HD)
  refine wpAnyH_ready (rs := [7, 11]) (by kernel_rfl) (by simp) ?_
  refine AllReadyH.cons (o := _) rfl (fun K hK => ?_) (AllReadyH.cons (o := _) rfl (fun K hK => ?_) AllReadyH.nil)
  rotate_left
  go_simp
  have HD : Hid (Blk (X.alloc (Obj.cells #[.int .u8 0, .int .u32 0, .int .u16 0, .int .u32 0, .bool false, .int .i64 0, .int .i64 0, .int .i64 0, .bool false, .int .u8 0, .int .u8 0, .int .u32 0, .int .i64 0, .int .i64 0, .int .i64 0, .int .i64 0, .int .i64 0, .bool false, .int .i64 0, .int .i64 0, .int .i64 0, .int .i64 0, .int .i64 0, .int .i64 0, .slice none 0 0, .int .i64 0, .int .i64 0, .int .i64 0, .bool false, .int .i64 0, .int .i64 0, .int .i64 0, .bool false, .int .i64 0, .int .i64 0, .int .i64 0, .int .i64 0, .int .i64 0, .int .i64 0, .int .i64 0, .bool false, .int .u32 0, .int .u8 0, .int .i64 0, .bool false, .int .u32 0, .int .u32 0, .int .u32 0] 48)) X.heap.size 48 (PL Sb.Pt.zero none 0 0).toArray) := H9 (Blk.new _ _ _)
  have hg8 : W.heap.size ≤ X.heap.size := qH.size
  obtain ⟨g8, hgg⟩ : ∃ g, g = X.heap.size := ⟨_, rfl⟩
  refine hK.out _ _ ?_ (fun qH => ?_)
  · exact zam qH _
  clear hK K
  try simp only [ss9]
  rw [← hgg] at HD hg8 ⊢
  have HGG := H9 hgg
  clear hgg
  obtain ⟨Y, hY⟩ : ∃ V, V = X.alloc (Obj.cells #[.int .u8 0, .int .u32 0, .int .u16 0, .int .u32 0, .bool false, .int .i64 0, .int .i64 0, .int .i64 0, .bool false, .int .u8 0, .int .u8 0, .int .u32 0, .int .i64 0, .int .i64 0, .int .i64 0, .int .i64 0, .int .i64 0, .bool false, .int .i64 0, .int .i64 0, .int .i64 0, .int .i64 0, .int .i64 0, .int .i64 0, .slice none 0 0, .int .i64 0, .int .i64 0, .int .i64 0, .bool false, .int .i64 0, .int .i64 0, .int .i64 0, .bool false, .int .i64 0, .int .i64 0, .int .i64 0, .int .i64 0, .int .i64 0, .int .i64 0, .int .i64 0, .bool false, .int .u32 0, .int .u8 0, .int .i64 0, .bool false, .int .u32 0, .int .u32 0, .int .u32 0] 48) := ⟨_, rfl⟩
  rw [← hY] at HD qH ⊢
  clear hY
  obtain ⟨X, hX⟩ : ∃ X, X = Y := ⟨_, rfl⟩
  subst hX
 all_goals try
  refine wpAnyH_ready (rs := [7]) (by kernel_rfl) (by simp) ?_
  refine AllReadyH.cons (o := _) rfl (fun K hK => ?_) AllReadyH.nil
 all_goals
  go_simp
  try have HCS := H9 HD.out.lt
  have hlo := qH.size
  refine (kP.out _ qH).mono ?_
  rintro e X ⟨A', n', c', l', rfl, hq1, hn, hc1, hc2, hW, hb1⟩
  obtain rfl : l' = [] := List.map_eq_nil_iff.1 (hq1.trans hj.out)
  obtain rfl : 0 = n' := hn
  clear hq1 hc1 hW
  try replace HD := H9 (HD.out.later hb1)
  refine hK.out _ _ ?_ (fun qH => ?_)
  · exact zal hb1 qH
  clear hK K hb1
  try simp only [ss9]
 all_goals
  refine tk1 (i := 8) (v := ?_) rfl (Or.inl ⟨by rfl, ?_⟩) qH ?_ (hQ := q9 hQp)
  rotate_left
  · (intro w hSw; clear hSw; go_simp; try with_reducible rfl)
  try simp only [ss9]
  refine tk1 (i := 9) (v := ?_) rfl (Or.inl ⟨by rfl, ?_⟩) qH ?_ (hQ := q9 hQp)
  rotate_left
  · (intro w hSw; clear hSw; go_simp; try with_reducible rfl)
  try simp only [ss9]
  refine tk1 (i := 10) (v := ?_) rfl (Or.inl ⟨by rfl, ?_⟩) qH ?_ (hQ := q9 hQp)
  rotate_left
  · (intro w hSw; clear hSw; go_simp; try with_reducible rfl)
  try simp only [ss9]
 all_goals try
  fail_if_success (have hx := HD)
  refine wpAnyH_ready (rs := [11]) (by kernel_rfl) (by simp) ?_
  refine AllReadyH.cons (o := _) rfl (fun K hK => ?_) AllReadyH.nil
  go_simp
  have HD : Hid (Blk (X.alloc (Obj.cells #[.int .u8 0, .int .u32 0, .int .u16 0, .int .u32 0, .bool false, .int .i64 0, .int .i64 0, .int .i64 0, .bool false, .int .u8 0, .int .u8 0, .int .u32 0, .int .i64 0, .int .i64 0, .int .i64 0, .int .i64 0, .int .i64 0, .bool false, .int .i64 0, .int .i64 0, .int .i64 0, .int .i64 0, .int .i64 0, .int .i64 0, .slice none 0 0, .int .i64 0, .int .i64 0, .int .i64 0, .bool false, .int .i64 0, .int .i64 0, .int .i64 0, .bool false, .int .i64 0, .int .i64 0, .int .i64 0, .int .i64 0, .int .i64 0, .int .i64 0, .int .i64 0, .bool false, .int .u32 0, .int .u8 0, .int .i64 0, .bool false, .int .u32 0, .int .u32 0, .int .u32 0] 48)) X.heap.size 48 (PL Sb.Pt.zero none 0 0).toArray) := H9 (Blk.new _ _ _)
  have hg8 : W.heap.size ≤ X.heap.size := qH.size
  obtain ⟨g8, hgg⟩ : ∃ g, g = X.heap.size := ⟨_, rfl⟩
  refine hK.out _ _ ?_ (fun qH => ?_)
  · exact zam qH _
  clear hK K
  try simp only [ss9]
  rw [← hgg] at HD hg8 ⊢
  have HGG := H9 hgg
  clear hgg
  obtain ⟨Y, hY⟩ : ∃ V, V = X.alloc (Obj.cells #[.int .u8 0, .int .u32 0, .int .u16 0, .int .u32 0, .bool false, .int .i64 0, .int .i64 0, .int .i64 0, .bool false, .int .u8 0, .int .u8 0, .int .u32 0, .int .i64 0, .int .i64 0, .int .i64 0, .int .i64 0, .int .i64 0, .bool false, .int .i64 0, .int .i64 0, .int .i64 0, .int .i64 0, .int .i64 0, .int .i64 0, .slice none 0 0, .int .i64 0, .int .i64 0, .int .i64 0, .bool false, .int .i64 0, .int .i64 0, .int .i64 0, .bool false, .int .i64 0, .int .i64 0, .int .i64 0, .int .i64 0, .int .i64 0, .int .i64 0, .int .i64 0, .bool false, .int .u32 0, .int .u8 0, .int .i64 0, .bool false, .int .u32 0, .int .u32 0, .int .u32 0] 48) := ⟨_, rfl⟩
  rw [← hY] at HD qH ⊢
  clear hY
  obtain ⟨X, hX⟩ : ∃ X, X = Y := ⟨_, rfl⟩
  subst hX
 all_goals
  refine wpAnyH_ready (rs := [12]) (by kernel_rfl) (by simp) ?_
  refine AllReadyH.cons (o := _) rfl (fun K hK => ?_) AllReadyH.nil
  refine zap rfl 48 (.tmp 20) (.tmp 84) rfl g8 0 rfl 48 _ HD.out (PL R.1 A' 0 c') rfl zag (Nat.le_refl 48) rfl (PL R.1 A' 0 c') rfl ?_
  intro WF BF OF
  have HF := OF.bel (show Bel W X from qH) hg8
  refine hK.out _ _ HF (fun qH => ?_)
  clear hK K
  try simp only [ss9]
  refine tk1 (i := 13) (v := ?_) rfl (Or.inl ⟨by rfl, ?_⟩) qH ?_ (hQ := q9 hQp)
  rotate_left
  · (intro w hSw; clear hSw; go_simp; try with_reducible rfl)
  try simp only [ss9]
  refine wpAnyH_done (by kernel_rfl) ?_ _
  exact hq.out WF g8 A' c' _ _ _ _ _ _ _ _ _ _ _ (H9 BF) hc2 hg8 (H9 HF)
theorem zin {w : World} {p : Sb.Pt} {A : Option Addr} {l : List TW} {n c : Nat} {X : Array Value} (C : PC w p A l n c) (hX : X = PA p A n c) : Calls Tryz.prog 28 #[.agg X] w (PortR (Sb.release p).1 (Sb.release p).2 w) := by
 have B0 := H9 ((PB.new w X hX).push (.cells (PA Sb.Pt.zero none 0 0) 48))
 have BR := H9 (Blk.new1 w (.cells X 48) 48 (PA Sb.Pt.zero none 0 0))
 have U0 := H9 (((Bel.refl w).push (.cells X 48)).push (.cells (PA Sb.Pt.zero none 0 0) 48))
 obtain ⟨v, hv⟩ : ∃ v, v = p.valid := ⟨_, rfl⟩
 have k1 := H9 fun (W : World) hW => zdb p C.wf A l n c (PA p A n c) rfl W C.q C.len C.n5 hW C.sq v hv
 have k2 : ∀ W, Calls Tryz.prog 66 #[.agg #[.bool p.tn.on, .int .u8 p.tn.code, .int .u8 p.tn.vol, .int .u32 p.tn.start, .int .i64 p.tn.len, .int .i64 p.tn.ends]] W fun e w' => e = .returned (.tuple #[.agg (Ev.release p.tn).1.row, .int .u8 (Ev.release p.tn).2]) ∧ Below W.heap.size W w' := fun W => zfe p.tn.on p.tn.code p.tn.vol p.tn.start p.tn.len p.tn.ends W
 obtain ⟨R, hR⟩ : ∃ R, R = Sb.release p := ⟨_, rfl⟩
 rw [← hR]
 have HR := H9 hR
 have HV := H9 hv
 clear hX hv hR
 go_enter Tryz.func28, Tryz.ntmps28
 go_upto_region 1 with fail
 change Code.wp _ _ _ _ ((w.alloc (Obj.cells X 48)).alloc (Obj.cells (PA Sb.Pt.zero none 0 0) 48))
 obtain ⟨W, hW⟩ : ∃ W, W = (w.alloc (Obj.cells X 48)).alloc (Obj.cells (PA Sb.Pt.zero none 0 0) 48) := ⟨_, rfl⟩
 rw [← hW] at B0 BR U0 ⊢
 clear hW
 go_wp2_with (first | (refine zae rfl 48 (.tmp 1) rfl (w.heap.size) 0 rfl 48 (PL p A n c) B0.out 48 _ Tryz.underlying48 zag (show 0 + 48 ≤ 48 by decide) (PA p A n c) (by rfl) rfl ?_) | fail)
 refine (k1.out _ (C.av.later U0.out)).mono ?_
 rintro e w1 ⟨rfl, hb1⟩
 replace U0 := H9 (U0.out.later hb1)
 replace B0 := H9 (B0.out.later hb1)
 replace BR := H9 (BR.out.later hb1)
 clear hb1 k1
 have hL := BR.out.lt
 cases v
 · obtain rfl : R = (Sb.Pt.zero, 2) := by rw [HR.out]; unfold Sb.release; rw [if_pos HV.out.symm]
   go_wp2_with (first | (refine zaf rfl 48 (.tmp 2) (.tmp 9) rfl (w.heap.size + 1) 0 rfl 48 (PL Sb.Pt.zero none 0 0) BR.out (PL Sb.Pt.zero none 0 0) rfl zag (show 0 + 48 ≤ 48 by decide) rfl (PL Sb.Pt.zero none 0 0) rfl ?_; intro WH BH OH) | fail)
   exact bodyPost_ret (v := .tuple #[.agg (PA Sb.Pt.zero none 0 0), .int .u8 2]) (zbt Tryz.results28 rfl (PB.load (p := Sb.Pt.zero) (A := none) (n := 0) (c := 0) BH) rfl) rfl ⟨none, 0, 0, [], rfl, rfl, rfl, Nat.le_refl _, Nat.zero_le _, WtsIn.empty, OH.bel U0.out (by omega)⟩
 have hRR : R = (if (Ev.release p.tn).2 = 0 then { p with tn := (Ev.release p.tn).1 } else Sb.Pt.zero, (Ev.release p.tn).2) := by
  rw [HR.out]; unfold Sb.release; rw [if_neg (by rw [← HV.out]; decide)]
  split
  · rename_i h0; rw [h0]
  · rfl
 have HRR := H9 hRR
 clear hRR
 generalize Ev.release p.tn = TT at *
 obtain ⟨T, er⟩ := TT
 simp only at HRR k2
 rw [zks T] at k2
 replace k2 := H9 k2
 have hwt := H9 fun (W : World) (hb : Below w.heap.size w W) => zeh (C.later hb) rfl T er
 unfold PortR at hwt
 rw [HRR.out]
 generalize (if er = 0 then { p with tn := T } else Sb.Pt.zero) = q at *
 have x3 := B0.out.cell 3 _ rfl
 go_upto_region 3 with fail
 go_wp2_with (first | (refine zae rfl 35 (.tmp 11) rfl (w.heap.size) 8 rfl 48 (PL p A n c) B0.out 6 _ Tryz.underlying35 zcd (show 8 + 6 ≤ 48 by decide) (#[.bool p.tn.on, .int .u8 p.tn.code, .int .u8 p.tn.vol, .int .u32 p.tn.start, .int .i64 p.tn.len, .int .i64 p.tn.ends]) (by rfl) rfl ?_) | fail)
 refine (k2.out _).mono ?_
 rintro e w2 ⟨rfl, hb1⟩
 replace U0 := H9 (U0.out.later hb1)
 replace B0 := H9 (B0.out.later hb1)
 replace BR := H9 (BR.out.later hb1)
 clear hb1 k2
 try clear x3
 have BT := H9 (Blk.new w2 35 #[.bool T.on, .int .u8 T.code, .int .u8 T.vol, .int .u32 T.start, .int .i64 T.len, .int .i64 T.ends])
 replace U0 := H9 (U0.out.push (.cells #[.bool T.on, .int .u8 T.code, .int .u8 T.vol, .int .u32 T.start, .int .i64 T.len, .int .i64 T.ends] 35))
 replace B0 := H9 (PB.push B0.out (.cells #[.bool T.on, .int .u8 T.code, .int .u8 T.vol, .int .u32 T.start, .int .i64 T.len, .int .i64 T.ends] 35))
 have hL2 := BR.out.lt
 replace BR := H9 (BR.out.push (.cells #[.bool T.on, .int .u8 T.code, .int .u8 T.vol, .int .u32 T.start, .int .i64 T.len, .int .i64 T.ends] 35))
 obtain ⟨gt, hgt⟩ : ∃ g, g = w2.heap.size := ⟨_, rfl⟩
 obtain ⟨W3, hW3⟩ : ∃ V, V = w2.alloc (Obj.cells #[.bool T.on, .int .u8 T.code, .int .u8 T.vol, .int .u32 T.start, .int .i64 T.len, .int .i64 T.ends] 35) := ⟨_, rfl⟩
 rw [← hgt, ← hW3] at BT
 go_upto_region 4 with fail
 rw [← hgt]
 rw [← hW3] at U0 B0 BR ⊢
 clear hW3 hgt
 go_wp2_with (first | (refine zae rfl 48 (.tmp 1) rfl (w.heap.size) 0 rfl 48 (PL p A n c) B0.out 48 _ Tryz.underlying48 zag (show 0 + 48 ≤ 48 by decide) (PA p A n c) (by rfl) rfl ?_) | (refine zae rfl 35 (.tmp 4) rfl (gt) 0 rfl 35 ([.bool T.on, .int .u8 T.code, .int .u8 T.vol, .int .u32 T.start, .int .i64 T.len, .int .i64 T.ends]) BT.out 6 _ Tryz.underlying35 zcd (show 0 + 6 ≤ 6 by decide) (#[.bool T.on, .int .u8 T.code, .int .u8 T.vol, .int .u32 T.start, .int .i64 T.len, .int .i64 T.ends]) (by rfl) rfl ?_) | fail)
 refine (hwt.out _ U0.out).mono ?_
 rintro e w4 ⟨A4, n4, c4, l4, rfl, e1, e2, e3, e4, e5, hb1⟩
 have hL4 := BR.out.lt
 replace U0 := H9 (U0.out.later hb1)
 replace B0 := H9 (B0.out.later hb1)
 replace BR := H9 (BR.out.later hb1)
 clear hb1 hwt BT
 go_wp2_with (first | (refine zaf rfl 48 (.tmp 2) (.tmp 20) rfl (w.heap.size + 1) 0 rfl 48 (PL Sb.Pt.zero none 0 0) BR.out (PL q A4 n4 c4) rfl zag (show 0 + 48 ≤ 48 by decide) rfl (PL q A4 n4 c4) rfl ?_; intro WH BH OH) | fail)
 rw [HRR.out]
 exact bodyPost_ret (v := .tuple #[.agg (PA q A4 n4 c4), .int .u8 er]) (zbt Tryz.results28 rfl (PB.load BH) rfl) rfl ⟨A4, n4, c4, l4, rfl, e1, e2, e3, e4, (e5.step OH (by omega)).less (by omega), OH.bel U0.out (by omega)⟩
end Go.Proofs.YtahbecinkciahaaGreat
namespace Go.Proofs.YtahbecinkciahaaGreat
open Go.RowKit
def inBlk : Option Code → Option Code
 | some (.block _ c) => some c
 | _ => none
def findB (i : Nat) : Code → Option Code
 | .block j c => if i = j then some c else findB i c
 | .seq a b => match findB i a with
   | some c => some c
   | none => findB i b
 | .cond _ a b => match findB i a with
   | some c => some c
   | none => findB i b
 | .loop c => findB i c
 | .scope c => findB i c
 | _ => none
theorem zep {P : Program} {c : Code} {Q : Exit → Act → World → Prop} (J : Nat → Act → World → Prop) (round : ∀ n a w, J n a w → c.wp P (Exit.then (fun a' w' => ∃ m, n = m + 1 ∧ J m a' w') Q) a w) : ∀ n a w, J n a w → Code.rounds P c Q (n + 1) a w
 | 0, a, w, h => Code.wp_mono (fun e a w q => by
  cases e <;> first | exact q | (obtain ⟨m, hm, _⟩ := q; omega)) (round 0 a w h)
 | n + 1, a, w, h => Code.wp_mono (fun e a w q => by
  cases e <;> first | exact q | (obtain ⟨m, hm, hJ⟩ := q; obtain rfl : m = n := (by omega); exact zep J round m a w hJ)) (round (n + 1) a w h)
end Go.Proofs.YtahbecinkciahaaGreat
namespace Go.Proofs.YtahbecinkciahaaGreat.Jb
open Go.RowKit
section
variable (l m seq time : Int)
def smd (i : Nat) : Md := ⟨seq + i, time + 160 * i, false, 0, []⟩
def swt (i : Nat) : Wt := ⟨5000 + l + 20 * i, smd seq time i⟩
def stq (a n : Nat) : List Wt := (List.range' a n).map (swt l seq time)
def cnt (i : Nat) : Nat := ((20 * (i : Int) - l + 20) / 20).toNat
def sst (i : Nat) : Jt := ⟨l, m, 5000 + 20 * i, true, 5000 + l, time, seq + i, if cnt l i = 0 then -1 else seq + cnt l i - 1, 0, 5000 - time / 8, stq l seq time (cnt l i) (i + 1 - cnt l i), 0, 0, cnt l i⟩
theorem zio {α : Type} (p : α → Bool) : ∀ l : List α, (∀ x ∈ l, p x = true) → l.takeWhile p = l ∧ l.dropWhile p = []
 | [], _ => ⟨rfl, rfl⟩
 | a :: l, h => by
   obtain ⟨h1, h2⟩ := zio p l (fun x hx => h x (List.mem_cons_of_mem _ hx))
   have ha := h a List.mem_cons_self
   rw [List.takeWhile_cons, List.dropWhile_cons, if_pos ha, if_pos ha, h1]
   exact ⟨rfl, h2⟩
variable (hc : cfg l m) (hs : 0 ≤ seq ∧ seq ≤ 65535) (ht : -2147483648 ≤ time ∧ time ≤ 2147483647)
end
structure EndJ (ls mo trip : Int) (s : Jt) (i : Nat) (hi : Int) : Prop where
 sm : Small i s
 least : s.least = ls
 most : s.most = mo
 spread : s.spread = 0
 trans : s.on = true → s.trans = trip
 base : s.on = true → ∃ j : Nat, s.first = 160 * (j : Int) ∧ s.zero = 20 * (j : Int) + trip + ls
 qat : ∀ a ∈ s.q, a.at_ < 20 * (i : Int) + trip + ls
 qsq : ∀ a ∈ s.q, a.m.sq < hi
 high : s.high < hi
 done : s.done < hi
 len : s.q.length ≤ i
theorem zhg {hi : Int} : ∀ (l : List Wt) (d : Int), (∀ w ∈ l, w.m.sq < hi) → d < hi → maxSq d l < hi
 | [], d, _, h => h
 | a :: l, d, h, hd => by
   have h1 := h a List.mem_cons_self
   exact zhg l (max d a.m.sq) (fun w hw => h w (List.mem_cons_of_mem _ hw)) (by omega)
theorem zot (z : Int) (q : List Wt) (h : ∀ a ∈ q, a.at_ < z) : lastAt z q = z := by
 unfold lastAt
 split
 · rfl
 · rename_i h0
   have hlt : q.length - 1 < q.length := by omega
   have h1 := h (q.getD (q.length - 1) Wt.zero) (by rw [List.getD_eq_getElem?_getD, List.getElem?_eq_getElem hlt]; exact List.getElem_mem hlt)
   omega
theorem zqm {q : List Wt} {w : Wt} (h : ∀ a ∈ q, a.at_ < w.at_) : ins q w = q ++ [w] := by
 have h1 := zio (fun x => decide (bef x w)) q (fun x hx => decide_eq_true (Or.inl (h x hx)))
 unfold ins
 rw [h1.1, h1.2]
theorem EndJ.skip {ls mo trip : Int} {s : Jt} {i : Nat} {hi hi' : Int} (h : EndJ ls mo trip s i hi) (hh : hi ≤ hi') : EndJ ls mo trip s (i + 1) hi' :=
 ⟨⟨h.sm.ok, by have := h.sm.late; push_cast; omega, by have := h.sm.twice; push_cast; omega, by have := h.sm.played; push_cast; omega⟩, h.least, h.most, h.spread, h.trans, h.base, fun a ha => by have := h.qat a ha; push_cast; omega, fun a ha => by have := h.qsq a ha; omega, by have := h.high; omega, by have := h.done; omega, by have := h.len; omega⟩
theorem EndJ.run {ls mo trip : Int} {s : Jt} {i : Nat} {hi : Int} (h : EndJ ls mo trip s i hi) (hi40 : i ≤ 40) (now : Int) (h1 : s.now ≤ now) (h2 : now ≤ 281474976710656) : EndJ ls mo trip (run0 s now) (i + 1) hi := by
 have hs := small_run h.sm (by omega) now h1 h2
 refine ⟨by push_cast; exact hs, h.least, h.most, h.spread, h.trans, h.base, fun a ha => ?_, fun a ha => h.qsq a ((left_sub now s.q).subset ha), h.high, zhg _ _ (fun w hw => h.qsq w ((due_sub now s.q).subset hw)) h.done, ?_⟩
 · have := h.qat a ((left_sub now s.q).subset ha)
   push_cast; omega
 · have h3 := (left_sub now s.q).length_le
   have h4 := h.len
   show (left now s.q).length ≤ i + 1
   omega
theorem EndJ.put {ls mo trip : Int} {s : Jt} {i : Nat} {hi : Int} (h : EndJ ls mo trip s i hi) (hi40 : i < 40) (hc : cfg ls mo) (t0 : 0 ≤ trip) (t1 : trip ≤ 65535) (h1 : s.now ≤ 20 * (i : Int) + trip) (m : Md) (hm : m.ok) (hti : m.ti = 160 * (i : Int)) (hsq : hi ≤ m.sq) :
 ∃ s' : Jt, put s (20 * (i : Int) + trip) m = (s', due (20 * (i : Int) + trip) s.q, 1, 0) ∧ s'.q = left (20 * (i : Int) + trip) s.q ++ [⟨20 * (i : Int) + trip + ls, m⟩] ∧ s'.now = 20 * (i : Int) + trip ∧ s'.played = s.played + (due (20 * (i : Int) + trip) s.q).length ∧ EndJ ls mo trip s' (i + 1) (m.sq + 1) := by
 obtain ⟨now, hnow⟩ : ∃ n, n = 20 * (i : Int) + trip := ⟨_, rfl⟩
 rw [← hnow] at h1 ⊢
 have h2 : now ≤ 281474976710656 := by omega
 have hck := chk_put h.sm.ok h1 h2 hm
 have hsr := small_run h.sm (by omega) now h1 h2
 have hsp := small_put h.sm (by omega) now h1 h2 m hm
 have hql : ∀ a ∈ left now s.q, a.at_ < now + ls := fun a ha => by
  have := h.qat a ((left_sub now s.q).subset ha)
  omega
 have hdn : maxSq s.done (due now s.q) < hi := zhg _ _ (fun w hw => h.qsq w ((due_sub now s.q).subset hw)) h.done
 have hlen : (left now s.q).length ≤ i := Nat.le_trans (left_sub now s.q).length_le h.len
 obtain ⟨c1, c2, c3⟩ := hc
 have hany : ((run0 s now).q.any fun w => w.m.sq == m.sq) = false := by
  rw [List.any_eq_false]
  intro a ha
  have := h.qsq a ((left_sub now s.q).subset ha)
  simp; omega
 have ht8 : m.ti / 8 = 20 * (i : Int) := by omega
 have hsp0 : (if s.on = true then s.spread + max (now - m.ti / 8 - s.trans) (s.trans - (now - m.ti / 8)) - (s.spread + 8) / 16 else s.spread) = 0 := by
  split
  · rename_i ho
    rw [h.spread, h.trans ho, ht8]; omega
  · exact h.spread
 obtain ⟨r, hr⟩ : ∃ r, r = meas (run0 s now) m := ⟨_, rfl⟩
 have r1 : r.spread = 0 := by rw [hr]; exact hsp0
 have r2 : r.trans = trip := by rw [hr]; show now - m.ti / 8 = trip; omega
 have r3 : r.q = left now s.q := by rw [hr]; rfl
 have r4 : r.high = max s.high m.sq := by rw [hr]; rfl
 have r5 : r.done = maxSq s.done (due now s.q) := by rw [hr]; rfl
 have r6 : ∃ j : Nat, r.first = 160 * (j : Int) ∧ r.zero = 20 * (j : Int) + trip + ls := by
  rw [hr]
  unfold meas
  simp only
  by_cases hb : (run0 s now).on = false ∨ (m.mrk = true ∧ (run0 s now).high < m.sq)
  · rw [if_pos hb, if_pos hb]
    refine ⟨i, hti, ?_⟩
    show lastAt (now + min (s.least + (if s.on = true then s.spread + max (now - m.ti / 8 - s.trans) (s.trans - (now - m.ti / 8)) - (s.spread + 8) / 16 else s.spread) / 4) s.most) (left now s.q) = _
    rw [hsp0, h.least, h.most, zot _ _ (fun a ha => by have := hql a ha; omega)]
    omega
  · rw [if_neg hb, if_neg hb]
    have ho : s.on = true := by
     cases hx : s.on
     · exact absurd (Or.inl hx) hb
     · rfl
    exact h.base ho
 have hat : ptime r m.ti = now + ls := by
  obtain ⟨j, e1, e2⟩ := r6
  unfold ptime
  rw [e1, e2, hti]; omega
 have hp0 : put0 (run0 s now) m = ({ r with q := ins r.q ⟨now + ls, m⟩ }, 1) := by
  unfold put0
  rw [if_neg (by rw [hany]; decide), if_neg (by rintro ⟨_, hx⟩; have : m.sq ≤ maxSq s.done (due now s.q) := hx; omega), if_neg (by show ¬200 ≤ (left now s.q).length; omega)]
  simp only
  rw [← hr, hat, if_neg (by show ¬now + ls ≤ now; omega), if_neg (by show ¬now + 120000 < now + ls; omega)]
 rw [hp0] at hsp
 have hins : ins r.q ⟨now + ls, m⟩ = left now s.q ++ [⟨now + ls, m⟩] := by rw [r3]; exact zqm hql
 refine ⟨{ r with q := ins r.q ⟨now + ls, m⟩ }, ?_, hins, ?_, ?_, ⟨by push_cast; exact hsp, by rw [hr]; exact h.least, by rw [hr]; exact h.most, r1, fun _ => r2, fun _ => r6, fun a ha => ?_, fun a ha => ?_, ?_, ?_, ?_⟩⟩
 · unfold Jb.put
   rw [hck, if_pos rfl, hp0]
 · rw [hr]; rfl
 · rw [hr]; rfl
 · replace ha : a ∈ ins r.q ⟨now + ls, m⟩ := ha
   rw [hins] at ha
   rcases List.mem_append.1 ha with ha | ha
   · have := hql a ha; push_cast; omega
   · obtain rfl := List.mem_singleton.1 ha
     show now + ls < _
     push_cast; omega
 · replace ha : a ∈ ins r.q ⟨now + ls, m⟩ := ha
   rw [hins] at ha
   rcases List.mem_append.1 ha with ha | ha
   · have := h.qsq a ((left_sub now s.q).subset ha); omega
   · obtain rfl := List.mem_singleton.1 ha
     show m.sq < m.sq + 1
     omega
 · show r.high < m.sq + 1
   have := h.high
   rw [r4]; omega
 · show r.done < m.sq + 1
   rw [r5]; omega
 · show (ins r.q ⟨now + ls, m⟩).length ≤ i + 1
   rw [hins]; simp; omega
theorem EndJ.start {ls mo trip : Int} (hc : cfg ls mo) : EndJ ls mo trip (new ls mo).1 0 0 := by
 have hs := small_new ls mo hc
 have e : (new ls mo).1 = ⟨ls, mo, 0, false, 0, 0, -1, -1, 0, 0, [], 0, 0, 0⟩ := by unfold new; rw [if_pos hc]
 rw [e] at hs ⊢
 exact ⟨by simpa using hs, rfl, rfl, rfl, (fun h => by cases h), (fun h => by cases h), (fun _ h => by cases h), (fun _ h => by cases h), (show (-1 : Int) < 0 by decide), (show (-1 : Int) < 0 by decide), by simp⟩
end Go.Proofs.YtahbecinkciahaaGreat.Jb
namespace Go.Proofs.YtahbecinkciahaaGreat
open Go.RowKit
namespace Sb
theorem zdo {s : Ev.Snd} (h : s.valid = true) : s.vol ≤ 63 ∧ (0 ≤ s.len ∧ s.len ≤ 65535) ∧ (0 ≤ s.ends ∧ s.ends ≤ 3) ∧ (s.on = true → s.ends = 0) := by
 unfold Ev.Snd.valid at h
 cases ho : s.on <;> simp [ho] at h ⊢ <;> omega
theorem next_some (s : Ev.Snd) (h : s.valid = true) (ht : s.on = true ∨ s.ends ≠ 0) (hv : 0 ≤ s.vol) : (Ev.next s 160).some = true ∧ (Ev.next s 160).err = 0 ∧ (0 ≤ (Ev.next s 160).o.tone.vol ∧ (Ev.next s 160).o.tone.vol ≤ 63) ∧ (0 ≤ (Ev.next s 160).o.tone.dur ∧ (Ev.next s 160).o.tone.dur ≤ 65535) := by
 obtain ⟨h1, h2, h3, h4⟩ := zdo h
 unfold Ev.next
 rw [if_neg (by rw [h]; decide), if_neg (by omega)]
 split
 · exact ⟨rfl, rfl, ⟨hv, h1⟩, by show 0 ≤ min (s.len + 160) 65535; omega, by show min (s.len + 160) 65535 ≤ 65535; omega⟩
 · rename_i ho
   rw [if_neg (by rcases ht with h | h; exact absurd h ho; exact h)]
   exact ⟨rfl, rfl, ⟨hv, h1⟩, h2⟩
theorem next_wf (s : Ev.Snd) (n : Int) (hv : 0 ≤ s.vol ∧ s.vol ≤ 255) (hc : 0 ≤ s.code ∧ s.code ≤ 255) (hs : 0 ≤ s.start ∧ s.start ≤ 4294967295) : (0 ≤ (Ev.next s n).s.vol ∧ (Ev.next s n).s.vol ≤ 255) ∧ (0 ≤ (Ev.next s n).s.code ∧ (Ev.next s n).s.code ≤ 255) ∧ (0 ≤ (Ev.next s n).s.start ∧ (Ev.next s n).s.start ≤ 4294967295) := by
 have z : (0 ≤ Ev.Snd.zero.vol ∧ Ev.Snd.zero.vol ≤ 255) ∧ (0 ≤ Ev.Snd.zero.code ∧ Ev.Snd.zero.code ≤ 255) ∧ (0 ≤ Ev.Snd.zero.start ∧ Ev.Snd.zero.start ≤ 4294967295) := by decide
 unfold Ev.next
 split
 · exact z
 split
 · exact z
 split
 · exact ⟨hv, hc, hs⟩
 split
 · exact ⟨hv, hc, hs⟩
 · show (0 ≤ (if s.ends = 1 then Ev.Snd.zero else _ : Ev.Snd).vol ∧ _) ∧ _
   split
   · exact z
   · exact ⟨hv, hc, hs⟩
end Sb
end Go.Proofs.YtahbecinkciahaaGreat
namespace Go.Proofs.YtahbecinkciahaaGreat.Sb
open Go.RowKit
def downs (ks : List Ev.Key) : Nat := (ks.filter fun k => k.down).length
theorem downs_append (a b : List Ev.Key) : downs (a ++ b) = downs a + downs b := by unfold downs; rw [List.filter_append, List.length_append]
def KQ (hd : Ev.Rcv) (i : Nat) : Prop := hd.on = false ∨ (hd.ended = true ∧ 0 ≤ hd.time ∧ hd.time < 160 * (i : Int))
def KS (tn : Ev.Snd) (hd : Ev.Rcv) (i : Nat) (b : Bool) : Prop := hd.on = true ∧ hd.time = tn.start ∧ hd.code = tn.code ∧ hd.ended = b ∧ 0 ≤ tn.start ∧ tn.start < 160 * (i : Int)
inductive KI (tn : Ev.Snd) (hd : Ev.Rcv) (i : Nat) : Nat → Prop where
 | idle (h1 : tn.on = false) (h2 : tn.ends = 0) (h3 : KQ hd i) : KI tn hd i 0
 | fresh (h1 : tn.on = true) (h2 : tn.start = 160 * (i : Int)) (h3 : KQ hd i) : KI tn hd i 1
 | held (h1 : tn.on = true) (h3 : KS tn hd i false) : KI tn hd i 0
 | rel (h1 : tn.on = false) (h2 : tn.ends = 3) (h3 : KS tn hd i false) : KI tn hd i 0
 | ending (h1 : tn.on = false) (h2 : tn.ends = 1 ∨ tn.ends = 2) (h3 : KS tn hd i true) : KI tn hd i 0
theorem KQ.next {hd : Ev.Rcv} {i : Nat} (h : KQ hd i) : KQ hd (i + 1) := by
 rcases h with h | ⟨h1, h2, h3⟩
 · exact .inl h
 · exact .inr ⟨h1, h2, by push_cast; omega⟩
theorem next_on {s : Ev.Snd} (hv : s.valid = true) (ho : s.on = true) : Ev.next s 160 = ⟨⟨true, s.code, s.vol, s.start, min (s.len + 160) 65535, s.ends⟩, ⟨s.start, s.len == 0, ⟨s.code, false, s.vol, min (s.len + 160) 65535⟩⟩, true, 0⟩ := by
 unfold Ev.next
 rw [if_neg (by rw [hv]; decide), if_neg (by omega), if_pos ho]
theorem next_off {s : Ev.Snd} (hv : s.valid = true) (ho : s.on = false) (he : s.ends ≠ 0) : Ev.next s 160 = ⟨if s.ends = 1 then Ev.Snd.zero else ⟨false, s.code, s.vol, s.start, s.len, s.ends - 1⟩, ⟨s.start, false, ⟨s.code, true, s.vol, s.len⟩⟩, true, 0⟩ := by
 unfold Ev.next
 rw [if_neg (by rw [hv]; decide), if_neg (by omega), if_neg (by rw [ho]; decide), if_neg he]
theorem zqn {r : Ev.Rcv} {time : Int} {t : Ev.Tone} (h : r.on = false ∨ 1 ≤ (time - r.time) % 4294967296 ∧ (time - r.time) % 4294967296 < 2147483648) :
 Ev.hear r time t = (⟨true, time, t.code, t.dur, t.fin⟩, (if r.on = true ∧ r.ended = false then [⟨r.code, false, r.time, r.len⟩] else []) ++ [⟨t.code, true, time, 0⟩] ++ (if t.fin = true then [⟨t.code, false, time, t.dur⟩] else [])) := by
 unfold Ev.hear
 rw [if_pos h]
theorem hear_same {r : Ev.Rcv} {time : Int} {t : Ev.Tone} (h : ¬(r.on = false ∨ 1 ≤ (time - r.time) % 4294967296 ∧ (time - r.time) % 4294967296 < 2147483648)) (h' : (time - r.time) % 4294967296 = 0 ∧ t.code = r.code ∧ r.ended = false) :
 Ev.hear r time t = (⟨r.on, r.time, r.code, max r.len t.dur, t.fin⟩, if t.fin = true then [⟨r.code, false, r.time, max r.len t.dur⟩] else []) := by
 unfold Ev.hear
 rw [if_neg h, if_pos h']
theorem hear_none {r : Ev.Rcv} {time : Int} {t : Ev.Tone} (h : ¬(r.on = false ∨ 1 ≤ (time - r.time) % 4294967296 ∧ (time - r.time) % 4294967296 < 2147483648)) (h' : ¬((time - r.time) % 4294967296 = 0 ∧ t.code = r.code ∧ r.ended = false)) :
 Ev.hear r time t = (r, []) := by
 unfold Ev.hear
 rw [if_neg h, if_neg h']
theorem KI.hear {tn : Ev.Snd} {hd : Ev.Rcv} {i f : Nat} (h : KI tn hd i f) (hi : i ≤ 40) (hv : tn.valid = true) (hto : tn.on = true ∨ tn.ends ≠ 0) :
 KI (Ev.next tn 160).s (Ev.hear hd (Ev.next tn 160).o.time (Ev.next tn 160).o.tone).1 (i + 1) 0 ∧ downs (Ev.hear hd (Ev.next tn 160).o.time (Ev.next tn 160).o.tone).2 = f := by
 obtain ⟨v1, v2, v3, v4⟩ := zdo hv
 cases h with
 | idle h1 h2 h3 => rcases hto with h | h; rw [h1] at h; cases h; exact absurd h2 h
 | fresh h1 h2 h3 =>
   rw [next_on hv h1]
   have hc : hd.on = false ∨ 1 ≤ (tn.start - hd.time) % 4294967296 ∧ (tn.start - hd.time) % 4294967296 < 2147483648 := by
    rcases h3 with h | ⟨h, h4, h5⟩
    · exact .inl h
    · right; rw [h2]; omega
   have hn : ¬(hd.on = true ∧ hd.ended = false) := by
    rintro ⟨ha, hb⟩
    rcases h3 with h | ⟨h, _, _⟩
    · rw [h] at ha; cases ha
    · rw [h] at hb; cases hb
   rw [zqn hc, if_neg hn]
   refine ⟨.held rfl ⟨rfl, rfl, rfl, rfl, by show 0 ≤ tn.start; omega, by show tn.start < 160 * ((i + 1 : Nat) : Int); push_cast; omega⟩, rfl⟩
 | held h1 h3 =>
   obtain ⟨a1, a2, a3, a4, a5, a6⟩ := h3
   rw [next_on hv h1]
   have e0 : (tn.start - hd.time) % 4294967296 = 0 := by rw [a2]; omega
   rw [hear_same (by show ¬(_ ∨ 1 ≤ (tn.start - hd.time) % 4294967296 ∧ _); rw [a1, e0]; rintro (h | h); cases h; omega) ⟨e0, a3.symm, a4⟩]
   exact ⟨.held rfl ⟨a1, a2, a3, rfl, a5, by show tn.start < 160 * ((i + 1 : Nat) : Int); push_cast; omega⟩, rfl⟩
 | rel h1 h2 h3 =>
   obtain ⟨a1, a2, a3, a4, a5, a6⟩ := h3
   rw [next_off hv h1 (by omega)]
   have e0 : (tn.start - hd.time) % 4294967296 = 0 := by rw [a2]; omega
   rw [hear_same (by show ¬(_ ∨ 1 ≤ (tn.start - hd.time) % 4294967296 ∧ _); rw [a1, e0]; rintro (h | h); cases h; omega) ⟨e0, a3.symm, a4⟩, if_neg (show ¬tn.ends = 1 by omega)]
   exact ⟨.ending rfl (.inr (by show tn.ends - 1 = 2; omega)) ⟨a1, a2, a3, rfl, a5, by show tn.start < 160 * ((i + 1 : Nat) : Int); push_cast; omega⟩, rfl⟩
 | ending h1 h2 h3 =>
   obtain ⟨a1, a2, a3, a4, a5, a6⟩ := h3
   rw [next_off hv h1 (by omega)]
   have e0 : (tn.start - hd.time) % 4294967296 = 0 := by rw [a2]; omega
   rw [hear_none (by show ¬(_ ∨ 1 ≤ (tn.start - hd.time) % 4294967296 ∧ _); rw [a1, e0]; rintro (h | h); cases h; omega) (by rintro ⟨_, _, h⟩; rw [a4] at h; cases h)]
   refine ⟨?_, rfl⟩
   by_cases h9 : tn.ends = 1
   · rw [if_pos h9]
     exact .idle rfl rfl (.inr ⟨a4, by rw [a2]; exact a5, by rw [a2]; push_cast; omega⟩)
   · rw [if_neg h9]
     exact .ending rfl (.inl (by show tn.ends - 1 = 1; omega)) ⟨a1, a2, a3, a4, a5, by show tn.start < 160 * ((i + 1 : Nat) : Int); push_cast; omega⟩
theorem KI.pass {tn : Ev.Snd} {hd : Ev.Rcv} {i f : Nat} (h : KI tn hd i f) (hto : ¬(tn.on = true ∨ tn.ends ≠ 0)) : f = 0 ∧ KI tn hd (i + 1) 0 := by
 cases h with
 | idle h1 h2 h3 => exact ⟨rfl, .idle h1 h2 h3.next⟩
 | fresh h1 h2 h3 => exact absurd (Or.inl h1) hto
 | held h1 h3 => exact absurd (Or.inl h1) hto
 | rel h1 h2 h3 => exact absurd (Or.inr (by omega)) hto
 | ending h1 h2 h3 => exact absurd (Or.inr (by omega)) hto
theorem KI.press {tn : Ev.Snd} {hd : Ev.Rcv} {i : Nat} (h : KI tn hd i 0) (hv : tn.valid = true) (code : Int) (he : (Ev.press tn code 10 (160 * (i : Int))).2 = 0) : KI (Ev.press tn code 10 (160 * (i : Int))).1 hd i 1 := by
 unfold Ev.press at he ⊢
 rw [if_neg (by rw [hv]; decide)] at he ⊢
 by_cases hb : tn.on = true ∨ tn.ends ≠ 0
 · rw [if_pos hb] at he; cases he
 · rw [if_neg hb, if_neg (by omega)] at he ⊢
   cases h with
   | idle h1 h2 h3 => exact .fresh rfl rfl h3
   | held h1 h3 => exact absurd (Or.inl h1) hb
   | rel h1 h2 h3 => exact absurd (Or.inr (by omega)) hb
   | ending h1 h2 h3 => exact absurd (Or.inr (by omega)) hb
theorem KI.release {tn : Ev.Snd} {hd : Ev.Rcv} {i : Nat} (h : KI tn hd i 0) (hv : tn.valid = true) (he : (Ev.release tn).2 = 0) : KI (Ev.release tn).1 hd i 0 := by
 unfold Ev.release at he ⊢
 rw [if_neg (by rw [hv]; decide)] at he ⊢
 by_cases hb : tn.on = false
 · rw [if_pos hb] at he; cases he
 · rw [if_neg hb] at he ⊢
   cases h with
   | idle h1 h2 h3 => exact absurd h1 hb
   | held h1 h3 => exact .rel rfl rfl h3
   | rel h1 h2 h3 => exact absurd h1 hb
   | ending h1 h2 h3 => exact absurd h1 hb
end Go.Proofs.YtahbecinkciahaaGreat.Sb
