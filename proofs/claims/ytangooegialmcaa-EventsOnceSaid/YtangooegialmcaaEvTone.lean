/- Layer 29: EncodeTone and DecodeTone of the program and of the reference. -/
import Derived.Test.YtangooegialmcaaEvPlain
import Derived.Test.YtangooegialmcaaLaw
import Derived.Test.YtangooegialmcaaRes
import Derived.Laws.BitsAllLaws
namespace Go.Proofs.Ytangooegialmcaa
open Go.RowKit
set_option linter.unusedVariables false
set_option linter.unusedSimpArgs false
attribute [local go_sem] setCell_drewN alloc_drewN
attribute [local go_sem ↓] Go.wp_at_zero Go.wp_at_succ
theorem Ev.and_bits : ∀ n : Fin 256, bits BinOp.and IntKind.u8 (n.val : Int) 64 = (if n.val / 64 % 2 = 1 then 64 else 0) ∧ bits BinOp.and IntKind.u8 (n.val : Int) 63 = ((n.val % 64 : Nat) : Int) := by decide +kernel
theorem Ev.and_bits' (n : Nat) (h : n < 256) : bits BinOp.and IntKind.u8 (n : Int) 64 = (if n / 64 % 2 = 1 then 64 else 0) ∧ bits BinOp.and IntKind.u8 (n : Int) 63 = ((n % 64 : Nat) : Int) := Ev.and_bits ⟨n, h⟩
theorem Ev.and64 (b : Int) (h0 : 0 ≤ b) (h1 : b ≤ 255) : bits BinOp.and IntKind.u8 b 64 = if b / 64 % 2 = 1 then 64 else 0 := by
  obtain ⟨n, rfl⟩ := Int.eq_ofNat_of_zero_le h0
  rw [(Ev.and_bits' n (by omega)).1]
  by_cases h : n / 64 % 2 = 1
  · rw [if_pos h, if_pos (by omega)]
  · rw [if_neg h, if_neg (by omega)]
theorem Ev.and63 (b : Int) (h0 : 0 ≤ b) (h1 : b ≤ 255) : bits BinOp.and IntKind.u8 b 63 = b % 64 := by
  obtain ⟨n, rfl⟩ := Int.eq_ofNat_of_zero_le h0
  rw [(Ev.and_bits' n (by omega)).2]; omega
theorem Ev.or_bytes (x0 x1 : Int) (a0 : 0 ≤ x0) (b0 : x0 ≤ 255) (a1 : 0 ≤ x1) (b1 : x1 ≤ 255) : bits BinOp.or IntKind.u16 (x0 * 256) x1 = 256 * x0 + x1 := by
  obtain ⟨n0, rfl⟩ := Int.eq_ofNat_of_zero_le a0
  obtain ⟨n1, rfl⟩ := Int.eq_ofNat_of_zero_le a1
  have e : ((n0 : Int) * 256) = ((n0 * 256 : Nat) : Int) := by omega
  have h : n0 * 256 ||| n1 = n0 * 256 + n1 := by
    rw [show (256 : Nat) = 2 ^ 8 from rfl, ← Nat.shiftLeft_eq, Nat.shiftLeft_add_eq_or_of_lt (by omega)]
  rw [e, u16_or_nat (n0 * 256) n1 (by omega) (by omega), h]
  omega
theorem Ev.u16_in (x : Int) (h0 : 0 ≤ x) (h1 : x ≤ 65535) : IntKind.u16.wrap x = x := by
  simp [IntKind.wrap, IntKind.bits, IntKind.signed]
  omega
theorem Ev.i64_in (x : Int) (h0 : -4611686018427387904 ≤ x) (h1 : x ≤ 4611686018427387904) : IntKind.i64.wrap x = x := by
  simp [IntKind.wrap, IntKind.bits, IntKind.signed]
  omega
/-- a tone's cells -/
def Ev.Tone.row (t : Ev.Tone) : Array Value := #[.int .u8 t.code, .bool t.fin, .int .u8 t.vol, .int .u16 t.dur]
section
variable (c : Int) (f : Bool) (v d : Int) (w : World)
set_option maxHeartbeats 400000 in
theorem EncodeTone_any (v0 : 0 ≤ v) (d0 : 0 ≤ d) (d1 : d ≤ 65535) :
    Calls Try.prog 32 #[.agg #[.int .u8 c, .bool f, .int .u8 v, .int .u16 d]] w (RetInts .u8 (Ev.encT c f v d).1 (Ev.encT c f v d).2 w) := by
  unfold Ev.encT
  by_cases h : 63 < v
  · rw [if_pos h]
    go_enter Try.func32, Try.ntmps32
    go_wp2
    go_ret2
    exact ⟨none, 0, rfl, IntsAt.nil, (Below.refl _ _).alloc (Nat.le_refl _) _⟩
  · rw [if_neg h]
    have h' : v ≤ 63 := by omega
    clear h
    cases f
    all_goals
      go_enter Try.func32, Try.ntmps32
      go_wp2
      go_ret2
      refine ⟨some ⟨w.heap.size + 1, 0, none⟩, 4, rfl, ?_, ((Below.refl _ _).alloc (Nat.le_refl _) _).alloc (by simp) _⟩
      refine IntsAt.lit1 w _ 5 .u8 _ _ ?_
      simp
      try omega
set_option maxHeartbeats 400000 in
theorem rEncodeTone_any (v0 : 0 ≤ v) (d0 : 0 ≤ d) (d1 : d ≤ 65535) :
    Calls Try.prog 33 #[.agg #[.int .u8 c, .bool f, .int .u8 v, .int .u16 d]] w (RetInts .u8 (Ev.encT c f v d).1 (Ev.encT c f v d).2 w) := by
  unfold Ev.encT
  by_cases h : 63 < v
  · rw [if_pos h]
    go_enter Try.func33, Try.ntmps33
    go_wp2
    go_ret2
    exact ⟨none, 0, rfl, IntsAt.nil, (Below.refl _ _).alloc (Nat.le_refl _) _⟩
  · rw [if_neg h]
    have h' : v ≤ 63 := by omega
    clear h
    cases f
    all_goals
      go_enter Try.func33, Try.ntmps33
      go_wp2
      go_ret2
      refine ⟨some ⟨w.heap.size + 1, 0, none⟩, 4, rfl, ?_, ((Below.refl _ _).alloc (Nat.le_refl _) _).alloc (by simp) _⟩
      refine IntsAt.lit1 w _ 5 .u8 _ _ ?_
      simp
      rw [Int.tdiv_eq_ediv_of_nonneg d0, Ev.u16_in _ (by omega) (by omega)]
      omega
end
section
variable (A : Option Addr) (bs : List Int) (cap : Nat) (w : World)
set_option maxHeartbeats 400000 in
theorem DecodeTone_short (n : Nat) (hn : (n : Int) < 4) :
    Calls Try.prog 34 #[.slice A n cap] w fun e w' => e = .returned (.tuple #[.agg #[.int .u8 0, .bool false, .int .u8 0, .int .u16 0], .int .u8 6]) ∧ Below w.heap.size w w' := by
  go_enter Try.func34, Try.ntmps34
  go_wp2
  refine bodyPost_ret (v := .tuple #[.agg #[.int .u8 0, .bool false, .int .u8 0, .int .u16 0], .int .u8 6]) (by simp [results, Try.results34, go_sem]) rfl ⟨rfl, ?_⟩
  repeat (first | exact Below.refl _ _ | refine Below.setCell ?_ (by simp) _ | refine Below.alloc ?_ (by simp; try omega) _)
set_option maxHeartbeats 400000 in
theorem DecodeTone_long (n : Nat) (hn : (4 : Int) < (n : Int)) (hd : decide ((n : Int) < 4) = false) (hm : (n : Int) ≤ 9223372036854775807) :
    Calls Try.prog 34 #[.slice A n cap] w fun e w' => e = .returned (.tuple #[.agg #[.int .u8 0, .bool false, .int .u8 0, .int .u16 0], .int .u8 5]) ∧ Below w.heap.size w w' := by
  go_enter Try.func34, Try.ntmps34
  go_wp2
  refine bodyPost_ret (v := .tuple #[.agg #[.int .u8 0, .bool false, .int .u8 0, .int .u16 0], .int .u8 5]) (by simp [results, Try.results34, go_sem]) rfl ⟨rfl, ?_⟩
  repeat (first | exact Below.refl _ _ | refine Below.setCell ?_ (by simp) _ | refine Below.alloc ?_ (by simp; try omega) _)
set_option maxHeartbeats 800000 in
theorem DecodeTone_bit (b off : Nat) (x1 : Int) (h0 : 0 ≤ x1) (h1 : x1 ≤ 255) (hx : x1 / 64 % 2 = 1) (hc1 : w.cell? ⟨b, off + 1, none⟩ = some (.int .u8 x1)) :
    Calls Try.prog 34 #[.slice (some ⟨b, off, none⟩) 4 cap] w fun e w' => e = .returned (.tuple #[.agg #[.int .u8 0, .bool false, .int .u8 0, .int .u16 0], .int .u8 5]) ∧ Below w.heap.size w w' := by
  have hb := cell_lt hc1
  have hn1 : b ≠ w.heap.size := by simp at hb; omega
  have ha := Ev.and64 x1 h0 h1
  rw [if_pos hx] at ha
  have HX := Lib.hid hx
  clear hx
  go_enter Try.func34, Try.ntmps34
  go_wp2
  refine bodyPost_ret (v := .tuple #[.agg #[.int .u8 0, .bool false, .int .u8 0, .int .u16 0], .int .u8 5]) (by simp [results, Try.results34, go_sem]) rfl ⟨rfl, ?_⟩
  repeat (first | exact Below.refl _ _ | refine Below.setCell ?_ (by simp) _ | refine Below.alloc ?_ (by simp; try omega) _)
set_option maxHeartbeats 1600000 in
theorem DecodeTone_ok (b off : Nat) (x0 x1 x2 x3 : Int) (g0 : 0 ≤ x0) (g1 : x0 ≤ 255) (h0 : 0 ≤ x1) (h1 : x1 ≤ 255) (i0 : 0 ≤ x2) (i1 : x2 ≤ 255) (j0 : 0 ≤ x3) (j1 : x3 ≤ 255) (hx : x1 / 64 % 2 = 0)
    (hc0 : w.cell? ⟨b, off, none⟩ = some (.int .u8 x0)) (hc1 : w.cell? ⟨b, off + 1, none⟩ = some (.int .u8 x1)) (hc2 : w.cell? ⟨b, off + 2, none⟩ = some (.int .u8 x2)) (hc3 : w.cell? ⟨b, off + 3, none⟩ = some (.int .u8 x3)) :
    Calls Try.prog 34 #[.slice (some ⟨b, off, none⟩) 4 cap] w fun e w' => e = .returned (.tuple #[.agg #[.int .u8 x0, .bool (decide (128 ≤ x1)), .int .u8 (x1 % 64), .int .u16 (256 * x2 + x3)], .int .u8 0]) ∧ Below w.heap.size w w' := by
  have hb := cell_lt hc1
  have hn1 : b ≠ w.heap.size := by simp at hb; omega
  have hn2 : w.heap.size ≠ b := by omega
  have ha := Ev.and64 x1 h0 h1
  rw [if_neg (by omega)] at ha
  have ha2 := Ev.and63 x1 h0 h1
  have ha3 := Ev.or_bytes x2 x3 i0 i1 j0 j1
  have HX := Lib.hid hx
  have w2 := Ev.u16_in x2 (by omega) (by omega)
  have w3 := Ev.u16_in x3 (by omega) (by omega)
  have w4 := Ev.u16_in (x2 * 256) (by omega) (by omega)
  clear hx
  go_enter Try.func34, Try.ntmps34
  go_wp2
  go_region_held3 (fun w' => w'.cell? ⟨b, off, none⟩ = some (.int .u8 x0) ∧ w'.cell? ⟨b, off + 1, none⟩ = some (.int .u8 x1) ∧ w'.cell? ⟨b, off + 2, none⟩ = some (.int .u8 x2) ∧ w'.cell? ⟨b, off + 3, none⟩ = some (.int .u8 x3)) (go_keep) (fail)
  all_goals go_wp2
  all_goals
    refine bodyPost_ret (v := .tuple #[.agg #[.int .u8 x0, .bool (decide (128 ≤ x1)), .int .u8 (x1 % 64), .int .u16 (256 * x2 + x3)], .int .u8 0]) (by simp [results, Try.results34, go_sem, *]; try omega) rfl ⟨rfl, ?_⟩
    repeat (first | exact Below.refl _ _ | refine Below.drew ?_ | refine Below.setCell ?_ (by simp) _ | refine Below.alloc ?_ (by simp; try omega) _)
set_option maxHeartbeats 400000 in
theorem rDecodeTone_short (n : Nat) (hn : (n : Int) < 4) :
    Calls Try.prog 35 #[.slice A n cap] w fun e w' => e = .returned (.tuple #[.agg #[.int .u8 0, .bool false, .int .u8 0, .int .u16 0], .int .u8 6]) ∧ Below w.heap.size w w' := by
  go_enter Try.func35, Try.ntmps35
  go_wp2
  refine bodyPost_ret (v := .tuple #[.agg #[.int .u8 0, .bool false, .int .u8 0, .int .u16 0], .int .u8 6]) (by simp [results, Try.results35, go_sem]) rfl ⟨rfl, ?_⟩
  repeat (first | exact Below.refl _ _ | refine Below.setCell ?_ (by simp) _ | refine Below.alloc ?_ (by simp; try omega) _)
set_option maxHeartbeats 400000 in
theorem rDecodeTone_long (n : Nat) (hn : (4 : Int) < (n : Int)) (hd : decide ((n : Int) < 4) = false) (hm : (n : Int) ≤ 9223372036854775807) :
    Calls Try.prog 35 #[.slice A n cap] w fun e w' => e = .returned (.tuple #[.agg #[.int .u8 0, .bool false, .int .u8 0, .int .u16 0], .int .u8 5]) ∧ Below w.heap.size w w' := by
  go_enter Try.func35, Try.ntmps35
  go_wp2
  refine bodyPost_ret (v := .tuple #[.agg #[.int .u8 0, .bool false, .int .u8 0, .int .u16 0], .int .u8 5]) (by simp [results, Try.results35, go_sem]) rfl ⟨rfl, ?_⟩
  repeat (first | exact Below.refl _ _ | refine Below.setCell ?_ (by simp) _ | refine Below.alloc ?_ (by simp; try omega) _)
set_option maxHeartbeats 800000 in
theorem rDecodeTone_bit (b off : Nat) (x1 : Int) (h0 : 0 ≤ x1) (h1 : x1 ≤ 255) (hx : x1 / 64 % 2 = 1) (hc1 : w.cell? ⟨b, off + 1, none⟩ = some (.int .u8 x1)) :
    Calls Try.prog 35 #[.slice (some ⟨b, off, none⟩) 4 cap] w fun e w' => e = .returned (.tuple #[.agg #[.int .u8 0, .bool false, .int .u8 0, .int .u16 0], .int .u8 5]) ∧ Below w.heap.size w w' := by
  have hb := cell_lt hc1
  have hn1 : b ≠ w.heap.size := by simp at hb; omega
  skip
  go_enter Try.func35, Try.ntmps35
  go_wp2
  refine bodyPost_ret (v := .tuple #[.agg #[.int .u8 0, .bool false, .int .u8 0, .int .u16 0], .int .u8 5]) (by simp [results, Try.results35, go_sem]) rfl ⟨rfl, ?_⟩
  repeat (first | exact Below.refl _ _ | refine Below.setCell ?_ (by simp) _ | refine Below.alloc ?_ (by simp; try omega) _)
set_option maxHeartbeats 1600000 in
theorem rDecodeTone_ok (b off : Nat) (x0 x1 x2 x3 : Int) (g0 : 0 ≤ x0) (g1 : x0 ≤ 255) (h0 : 0 ≤ x1) (h1 : x1 ≤ 255) (i0 : 0 ≤ x2) (i1 : x2 ≤ 255) (j0 : 0 ≤ x3) (j1 : x3 ≤ 255) (hx : x1 / 64 % 2 = 0)
    (hc0 : w.cell? ⟨b, off, none⟩ = some (.int .u8 x0)) (hc1 : w.cell? ⟨b, off + 1, none⟩ = some (.int .u8 x1)) (hc2 : w.cell? ⟨b, off + 2, none⟩ = some (.int .u8 x2)) (hc3 : w.cell? ⟨b, off + 3, none⟩ = some (.int .u8 x3)) :
    Calls Try.prog 35 #[.slice (some ⟨b, off, none⟩) 4 cap] w fun e w' => e = .returned (.tuple #[.agg #[.int .u8 x0, .bool (decide (128 ≤ x1)), .int .u8 (x1 % 64), .int .u16 (256 * x2 + x3)], .int .u8 0]) ∧ Below w.heap.size w w' := by
  have hb := cell_lt hc1
  have hn1 : b ≠ w.heap.size := by simp at hb; omega
  have hn2 : w.heap.size ≠ b := by omega
  have t1 : x1.tmod 64 = x1 % 64 := Int.tmod_eq_emod_of_nonneg h0
  have e2 := Ev.i64_in x2 (by omega) (by omega)
  have e3 := Ev.i64_in x3 (by omega) (by omega)
  have e4 := Ev.i64_in (256 * x2) (by omega) (by omega)
  have e5 := Ev.i64_in (256 * x2 + x3) (by omega) (by omega)
  have e6 := Ev.u16_in (256 * x2 + x3) (by omega) (by omega)
  go_enter Try.func35, Try.ntmps35
  go_wp2
  go_region_held3 (fun w' => w'.cell? ⟨b, off, none⟩ = some (.int .u8 x0) ∧ w'.cell? ⟨b, off + 1, none⟩ = some (.int .u8 x1) ∧ w'.cell? ⟨b, off + 2, none⟩ = some (.int .u8 x2) ∧ w'.cell? ⟨b, off + 3, none⟩ = some (.int .u8 x3)) (go_keep) (fail)
  all_goals go_wp2
  all_goals
    refine bodyPost_ret (v := .tuple #[.agg #[.int .u8 x0, .bool (decide (128 ≤ x1)), .int .u8 (x1 % 64), .int .u16 (256 * x2 + x3)], .int .u8 0]) (by simp [results, Try.results35, go_sem, *]; try omega) rfl ⟨rfl, ?_⟩
    repeat (first | exact Below.refl _ _ | refine Below.drew ?_ | refine Below.setCell ?_ (by simp) _ | refine Below.alloc ?_ (by simp; try omega) _)
theorem DecodeTone_any (hA : IntsAt w w.heap.size .u8 A bs) (hz : Within 0 255 bs) (hmax : bs.length ≤ maxLen) :
    Calls Try.prog 34 #[.slice A bs.length cap] w fun e w' => e = .returned (.tuple #[.agg (Ev.decT bs).1.row, .int .u8 (Ev.decT bs).2]) ∧ Below w.heap.size w w' := by
  unfold maxLen at hmax
  unfold Ev.decT
  by_cases h4 : bs.length < 4
  · rw [if_pos h4]; exact DecodeTone_short A cap w _ (by omega)
  · rw [if_neg h4]
    by_cases h5 : 4 < bs.length
    · rw [if_pos (.inl h5)]; exact DecodeTone_long A cap w _ (by omega) (by simp; omega) (by omega)
    · have hl : bs.length = 4 := by omega
      obtain ⟨b, off, rfl, _, hc⟩ := hA (by omega)
      have c0 := hc 0 (by omega)
      have c1 := hc 1 (by omega)
      have c2 := hc 2 (by omega)
      have c3 := hc 3 (by omega)
      have b0 := hz.at (i := 0) (by omega)
      have b1 := hz.at (i := 1) (by omega)
      have b2 := hz.at (i := 2) (by omega)
      have b3 := hz.at (i := 3) (by omega)
      rw [hl]
      generalize bs.getD 0 0 = x0 at *
      generalize bs.getD 1 0 = x1 at *
      generalize bs.getD 2 0 = x2 at *
      generalize bs.getD 3 0 = x3 at *
      by_cases hx : x1 / 64 % 2 = 1
      · rw [if_pos (.inr hx)]; exact DecodeTone_bit cap w b off x1 b1.1 b1.2 hx c1
      · rw [if_neg (by omega)]; exact DecodeTone_ok cap w b off x0 x1 x2 x3 b0.1 b0.2 b1.1 b1.2 b2.1 b2.2 b3.1 b3.2 (by omega) c0 c1 c2 c3
theorem rDecodeTone_any (hA : IntsAt w w.heap.size .u8 A bs) (hz : Within 0 255 bs) (hmax : bs.length ≤ maxLen) :
    Calls Try.prog 35 #[.slice A bs.length cap] w fun e w' => e = .returned (.tuple #[.agg (Ev.decT bs).1.row, .int .u8 (Ev.decT bs).2]) ∧ Below w.heap.size w w' := by
  unfold maxLen at hmax
  unfold Ev.decT
  by_cases h4 : bs.length < 4
  · rw [if_pos h4]; exact rDecodeTone_short A cap w _ (by omega)
  · rw [if_neg h4]
    by_cases h5 : 4 < bs.length
    · rw [if_pos (.inl h5)]; exact rDecodeTone_long A cap w _ (by omega) (by simp; omega) (by omega)
    · have hl : bs.length = 4 := by omega
      obtain ⟨b, off, rfl, _, hc⟩ := hA (by omega)
      have c0 := hc 0 (by omega)
      have c1 := hc 1 (by omega)
      have c2 := hc 2 (by omega)
      have c3 := hc 3 (by omega)
      have b0 := hz.at (i := 0) (by omega)
      have b1 := hz.at (i := 1) (by omega)
      have b2 := hz.at (i := 2) (by omega)
      have b3 := hz.at (i := 3) (by omega)
      rw [hl]
      generalize bs.getD 0 0 = x0 at *
      generalize bs.getD 1 0 = x1 at *
      generalize bs.getD 2 0 = x2 at *
      generalize bs.getD 3 0 = x3 at *
      by_cases hx : x1 / 64 % 2 = 1
      · rw [if_pos (.inr hx)]; exact rDecodeTone_bit cap w b off x1 b1.1 b1.2 hx c1
      · rw [if_neg (by omega)]; exact rDecodeTone_ok cap w b off x0 x1 x2 x3 b0.1 b0.2 b1.1 b1.2 b2.1 b2.2 b3.1 b3.2 (by omega) c0 c1 c2 c3
end
end Go.Proofs.Ytangooegialmcaa
