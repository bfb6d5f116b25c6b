/- Layer 29: Hear of the reference. -/
import Derived.Test.YtangooegialmcaaEvHear
namespace Go.Proofs.Ytangooegialmcaa
open Go.RowKit
set_option linter.unusedVariables false
set_option linter.unusedSimpArgs false
attribute [local go_sem ↓] run_min_plain run_max_plain
attribute [local go_sem] setCell_drewN alloc_drewN
/-- in Hear of the reference: the receiver, the tone, the result's cell and the keys so far -/
structure Ev.RS (w0 w : World) (r : Ev.Rcv) (t : Array Value) (A : Option Addr) (n c : Nat) (xs : List Value) : Prop where
  b0 : Blk w w0.heap.size 24 #[.bool r.on, .int .u32 r.time, .int .u8 r.code, .int .i64 r.len, .bool r.ended]
  b1 : Blk w (w0.heap.size + 1) 31 t
  b2 : Blk w (w0.heap.size + 1 + 1) 24 #[.bool false, .int .u32 0, .int .u8 0, .int .i64 0, .bool false]
  own : Owns w (w0.heap.size + 3) 70 4 A n c xs
  bel : Below w0.heap.size w0 w
theorem Ev.RS.grown {w0 w w' : World} {r : Ev.Rcv} {t : Array Value} {A : Option Addr} {n c : Nat} {xs : List Value} (h : Ev.RS w0 w r t A n c xs) (hg : w.grownBy w' (ownB A)) {A' : Option Addr} {n' c' : Nat} {xs' : List Value}
    (ho : Owns w' (w0.heap.size + 3) 70 4 A' n' c' xs') : Ev.RS w0 w' r t A' n' c' xs' := by
  have hne : ∀ g, g < w0.heap.size + 3 → some g ≠ ownB A := fun g hg' he => by have := (h.own.block g he.symm).1; omega
  exact ⟨h.b0.grown hg (hne _ (by omega)), h.b1.grown hg (hne _ (by omega)), h.b2.grown hg (hne _ (by omega)), ho, h.bel.grown hg h.bel.size (fun g he => by have := (h.own.block g he).1; omega)⟩
def Ev.RS.Seen (w0 w : World) (r : Ev.Rcv) (c : Int) (f : Bool) (v d : Int) : Prop :=
  w.cell? ⟨w0.heap.size, 0, none⟩ = some (.bool r.on) ∧ w.cell? ⟨w0.heap.size, 1, none⟩ = some (.int .u32 r.time) ∧ w.cell? ⟨w0.heap.size, 2, none⟩ = some (.int .u8 r.code) ∧ w.cell? ⟨w0.heap.size, 3, none⟩ = some (.int .i64 r.len) ∧ w.cell? ⟨w0.heap.size, 4, none⟩ = some (.bool r.ended) ∧ w.cell? ⟨w0.heap.size + 1, 0, none⟩ = some (.int .u8 c) ∧ w.cell? ⟨w0.heap.size + 1, 1, none⟩ = some (.bool f) ∧ w.cell? ⟨w0.heap.size + 1, 2, none⟩ = some (.int .u8 v) ∧ w.cell? ⟨w0.heap.size + 1, 3, none⟩ = some (.int .u16 d) ∧ w.cell? ⟨w0.heap.size + 1 + 1, 0, none⟩ = some (.bool false) ∧ w.frozen? ⟨w0.heap.size + 1 + 1, 0, none⟩ = false ∧ w.cell? ⟨w0.heap.size + 1 + 1, 1, none⟩ = some (.int .u32 0) ∧ w.frozen? ⟨w0.heap.size + 1 + 1, 1, none⟩ = false ∧ w.cell? ⟨w0.heap.size + 1 + 1, 2, none⟩ = some (.int .u8 0) ∧ w.frozen? ⟨w0.heap.size + 1 + 1, 2, none⟩ = false ∧ w.cell? ⟨w0.heap.size + 1 + 1, 3, none⟩ = some (.int .i64 0) ∧ w.frozen? ⟨w0.heap.size + 1 + 1, 3, none⟩ = false ∧ w.cell? ⟨w0.heap.size + 1 + 1, 4, none⟩ = some (.bool false) ∧ w.frozen? ⟨w0.heap.size + 1 + 1, 4, none⟩ = false ∧ w0.heap.size + 3 ≤ w.heap.size
theorem Ev.RS.seen {w0 w : World} {r : Ev.Rcv} {c : Int} {f : Bool} {v d : Int} {A : Option Addr} {n k : Nat} {xs : List Value} (h : Ev.RS w0 w r #[.int .u8 c, .bool f, .int .u8 v, .int .u16 d] A n k xs) : Ev.RS.Seen w0 w r c f v d :=
  ⟨h.b0.at 0 _ rfl, h.b0.at 1 _ rfl, h.b0.at 2 _ rfl, h.b0.at 3 _ rfl, h.b0.at 4 _ rfl, h.b1.at 0 _ rfl, h.b1.at 1 _ rfl, h.b1.at 2 _ rfl, h.b1.at 3 _ rfl, h.b2.at 0 _ rfl, h.b2.frozen 0, h.b2.at 1 _ rfl, h.b2.frozen 1, h.b2.at 2 _ rfl, h.b2.frozen 2, h.b2.at 3 _ rfl, h.b2.frozen 3, h.b2.at 4 _ rfl, h.b2.frozen 4, by have := h.b2.lt; omega⟩
theorem Ev.RS.start (w : World) (r : Ev.Rcv) (t : Array Value) : Ev.RS w (((w.alloc (.cells #[.bool r.on, .int .u32 r.time, .int .u8 r.code, .int .i64 r.len, .bool r.ended] 24)).alloc (.cells t 31)).alloc (.cells #[.bool false, .int .u32 0, .int .u8 0, .int .i64 0, .bool false] 24)) r t none 0 0 [] :=
  ⟨((Blk.new w _ _).push _).push _, (Blk.new1 w _ _ _).push _, Blk.new2 w _ _ _ _, Owns.nil, (((Bel.refl w).push _).push _).push _⟩
theorem Ev.RS.start_size (w : World) (r : Ev.Rcv) (t : Array Value) : (((w.alloc (.cells #[.bool r.on, .int .u32 r.time, .int .u8 r.code, .int .i64 r.len, .bool r.ended] 24)).alloc (.cells t 31)).alloc (.cells #[.bool false, .int .u32 0, .int .u8 0, .int .i64 0, .bool false] 24)).heap.size = w.heap.size + 1 + 1 + 1 := by simp
section
variable (rt rc rl time c v d : Int) (w : World)
set_option maxRecDepth 100000 in
set_option maxHeartbeats 500000 in
theorem rHear_off_f (re : Bool) (t0 : 0 ≤ time) (t1 : time ≤ 4294967295) (r0 : 0 ≤ rt) (r1 : rt ≤ 4294967295) (d0 : 0 ≤ d) (d1 : d ≤ 65535) (l0 : -9223372036854775808 ≤ rl) (l1 : rl ≤ 9223372036854775807) :
    Calls Try.prog 13 #[.agg #[.bool false, .int .u32 rt, .int .u8 rc, .int .i64 rl, .bool re], .int .u32 time, .agg #[.int .u8 c, .bool false, .int .u8 v, .int .u16 d]] w (Ev.HearR w (⟨true, time, c, d, false⟩, [⟨c, true, time, 0⟩])) := by
  have H0 := Lib.hid (Ev.RS.start w ⟨false, rt, rc, rl, re⟩ #[.int .u8 c, .bool false, .int .u8 v, .int .u16 d])
  have HE := Lib.hid (show (time - rt + 4294967296) % 4294967296 = (time - rt) % 4294967296 by omega)
  go_enter Try.func13, Try.ntmps13
  go_wp2_with (first | (at_builtin; refine wpList_append_one rfl (.tmp 46) (.tmp 51) 26 rfl (w.heap.size + 3) 70 4 16 _ Try.underlying26 Ev.info_key rfl (by decide) (none) 0 0 _ rfl H0.out.own [.int .u8 c, .bool true, .int .u32 time, .int .i64 (0)] rfl (by simp [Value.oneCell']) (by rw [Ev.RS.start_size]; rfl) (by unfold maxLen; omega) (by omega) (by rw [Ev.RS.start_size]; omega) ?_; intro A2 c2 w2 hown2 hg2 hlt2; have HH2 := Lib.hid (H0.out.grown hg2 hown2); obtain ⟨s0, s1, s2, s3, s4, s5, s6, s7, s8, s9, s10, s11, s12, s13, s14, s15, s16, s17, s18, s19⟩ := HH2.out.seen; clear hown2 hg2 hlt2))
  refine bodyPost_ret (v := .tuple #[.agg #[.bool true, .int .u32 time, .int .u8 c, .int .i64 (d), .bool false], .slice A2 1 c2]) ?_ rfl ?_
  · simp [results, Try.results13, go_sem, *]
  · have HB := Lib.hid HH2.out.bel
    have HO := HH2.out.own
    have HW := Lib.hid HO
    clear HO s0 s1 s2 s3 s4 s5 s6 s7 s8 s9 s10 s11 s12 s13 s14 s15 s16 s17 s18 s19
    refine Ev.HearR.mk rfl ?_ ?_
    · refine Owns.rowsNew (B := w.heap.size) (base := w.heap.size + 3) (e := 70) (n := 1) (c := c2) ?_ rfl (fun _ => rfl)
      have HX : Owns w2 (w.heap.size + 3) 70 4 A2 1 c2 (List.flatMap Ev.Key.row [⟨c, true, time, 0⟩]) := by
        have := HW.out
        simpa [Ev.Key.row] using this
      repeat (first | with_reducible exact HX | with_reducible refine Owns.drew ?_ | ((with_reducible refine Owns.setCell ?_ ?_ _); rotate_left; (intro g hg; have := (HW.out.block g hg).1; simp; omega)))
    · repeat (first | with_reducible exact HB.out | with_reducible refine Below.drew ?_ | ((with_reducible refine Below.setCell ?_ ?_ _); rotate_left; (simp; try omega)))
set_option maxRecDepth 100000 in
set_option maxHeartbeats 500000 in
theorem rHear_off_t (re : Bool) (t0 : 0 ≤ time) (t1 : time ≤ 4294967295) (r0 : 0 ≤ rt) (r1 : rt ≤ 4294967295) (d0 : 0 ≤ d) (d1 : d ≤ 65535) (l0 : -9223372036854775808 ≤ rl) (l1 : rl ≤ 9223372036854775807) :
    Calls Try.prog 13 #[.agg #[.bool false, .int .u32 rt, .int .u8 rc, .int .i64 rl, .bool re], .int .u32 time, .agg #[.int .u8 c, .bool true, .int .u8 v, .int .u16 d]] w (Ev.HearR w (⟨true, time, c, d, true⟩, [⟨c, true, time, 0⟩, ⟨c, false, time, d⟩])) := by
  have H0 := Lib.hid (Ev.RS.start w ⟨false, rt, rc, rl, re⟩ #[.int .u8 c, .bool true, .int .u8 v, .int .u16 d])
  have HE := Lib.hid (show (time - rt + 4294967296) % 4294967296 = (time - rt) % 4294967296 by omega)
  go_enter Try.func13, Try.ntmps13
  go_wp2_with (first | (at_builtin; refine wpList_append_one rfl (.tmp 46) (.tmp 51) 26 rfl (w.heap.size + 3) 70 4 16 _ Try.underlying26 Ev.info_key rfl (by decide) (none) 0 0 _ rfl H0.out.own [.int .u8 c, .bool true, .int .u32 time, .int .i64 (0)] rfl (by simp [Value.oneCell']) (by rw [Ev.RS.start_size]; rfl) (by unfold maxLen; omega) (by omega) (by rw [Ev.RS.start_size]; omega) ?_; intro A2 c2 w2 hown2 hg2 hlt2; have HH2 := Lib.hid (H0.out.grown hg2 hown2); obtain ⟨s0, s1, s2, s3, s4, s5, s6, s7, s8, s9, s10, s11, s12, s13, s14, s15, s16, s17, s18, s19⟩ := HH2.out.seen; clear hown2 hg2 hlt2) | (at_builtin; refine wpList_append_one rfl (.tmp 55) (.tmp 63) 26 rfl (w.heap.size + 3) 70 4 16 _ Try.underlying26 Ev.info_key rfl (by decide) (A2) 1 c2 _ rfl HH2.out.own [.int .u8 c, .bool false, .int .u32 time, .int .i64 (d)] rfl (by simp [Value.oneCell']) rfl (by unfold maxLen; omega) (by omega) (by omega) ?_; intro A3 c3 w3 hown3 hg3 hlt3; have HH3 := Lib.hid (HH2.out.grown hg3 hown3); clear s0 s1 s2 s3 s4 s5 s6 s7 s8 s9 s10 s11 s12 s13 s14 s15 s16 s17 s18 s19; obtain ⟨s0, s1, s2, s3, s4, s5, s6, s7, s8, s9, s10, s11, s12, s13, s14, s15, s16, s17, s18, s19⟩ := HH3.out.seen; clear hown3 hg3 hlt3))
  refine bodyPost_ret (v := .tuple #[.agg #[.bool true, .int .u32 time, .int .u8 c, .int .i64 (d), .bool true], .slice A3 2 c3]) ?_ rfl ?_
  · simp [results, Try.results13, go_sem, *]
  · have HB := Lib.hid HH3.out.bel
    have HO := HH3.out.own
    have HW := Lib.hid HO
    clear HO s0 s1 s2 s3 s4 s5 s6 s7 s8 s9 s10 s11 s12 s13 s14 s15 s16 s17 s18 s19
    refine Ev.HearR.mk rfl ?_ ?_
    · refine Owns.rowsNew (B := w.heap.size) (base := w.heap.size + 3) (e := 70) (n := 2) (c := c3) ?_ rfl (fun _ => rfl)
      have HX : Owns w3 (w.heap.size + 3) 70 4 A3 2 c3 (List.flatMap Ev.Key.row [⟨c, true, time, 0⟩, ⟨c, false, time, d⟩]) := by
        have := HW.out
        simpa [Ev.Key.row] using this
      repeat (first | with_reducible exact HX | with_reducible refine Owns.drew ?_ | ((with_reducible refine Owns.setCell ?_ ?_ _); rotate_left; (intro g hg; have := (HW.out.block g hg).1; simp; omega)))
    · repeat (first | with_reducible exact HB.out | with_reducible refine Below.drew ?_ | ((with_reducible refine Below.setCell ?_ ?_ _); rotate_left; (simp; try omega)))
set_option maxRecDepth 100000 in
set_option maxHeartbeats 500000 in
theorem rHear_on_f (t0 : 0 ≤ time) (t1 : time ≤ 4294967295) (r0 : 0 ≤ rt) (r1 : rt ≤ 4294967295) (d0 : 0 ≤ d) (d1 : d ≤ 65535) (l0 : -9223372036854775808 ≤ rl) (l1 : rl ≤ 9223372036854775807) (hD1 : 1 ≤ (time - rt + 4294967296) % 4294967296) (hD2 : (time - rt + 4294967296) % 4294967296 < 2147483648) :
    Calls Try.prog 13 #[.agg #[.bool true, .int .u32 rt, .int .u8 rc, .int .i64 rl, .bool true], .int .u32 time, .agg #[.int .u8 c, .bool false, .int .u8 v, .int .u16 d]] w (Ev.HearR w (⟨true, time, c, d, false⟩, [⟨c, true, time, 0⟩])) := by
  have H0 := Lib.hid (Ev.RS.start w ⟨true, rt, rc, rl, true⟩ #[.int .u8 c, .bool false, .int .u8 v, .int .u16 d])
  have HE := Lib.hid (show (time - rt + 4294967296) % 4294967296 = (time - rt) % 4294967296 by omega)
  go_enter Try.func13, Try.ntmps13
  go_wp2_with (first | (at_builtin; refine wpList_append_one rfl (.tmp 46) (.tmp 51) 26 rfl (w.heap.size + 3) 70 4 16 _ Try.underlying26 Ev.info_key rfl (by decide) (none) 0 0 _ rfl H0.out.own [.int .u8 c, .bool true, .int .u32 time, .int .i64 (0)] rfl (by simp [Value.oneCell']) (by rw [Ev.RS.start_size]; rfl) (by unfold maxLen; omega) (by omega) (by rw [Ev.RS.start_size]; omega) ?_; intro A2 c2 w2 hown2 hg2 hlt2; have HH2 := Lib.hid (H0.out.grown hg2 hown2); obtain ⟨s0, s1, s2, s3, s4, s5, s6, s7, s8, s9, s10, s11, s12, s13, s14, s15, s16, s17, s18, s19⟩ := HH2.out.seen; clear hown2 hg2 hlt2))
  refine bodyPost_ret (v := .tuple #[.agg #[.bool true, .int .u32 time, .int .u8 c, .int .i64 (d), .bool false], .slice A2 1 c2]) ?_ rfl ?_
  · simp [results, Try.results13, go_sem, *]
  · have HB := Lib.hid HH2.out.bel
    have HO := HH2.out.own
    have HW := Lib.hid HO
    clear HO s0 s1 s2 s3 s4 s5 s6 s7 s8 s9 s10 s11 s12 s13 s14 s15 s16 s17 s18 s19
    refine Ev.HearR.mk rfl ?_ ?_
    · refine Owns.rowsNew (B := w.heap.size) (base := w.heap.size + 3) (e := 70) (n := 1) (c := c2) ?_ rfl (fun _ => rfl)
      have HX : Owns w2 (w.heap.size + 3) 70 4 A2 1 c2 (List.flatMap Ev.Key.row [⟨c, true, time, 0⟩]) := by
        have := HW.out
        simpa [Ev.Key.row] using this
      repeat (first | with_reducible exact HX | with_reducible refine Owns.drew ?_ | ((with_reducible refine Owns.setCell ?_ ?_ _); rotate_left; (intro g hg; have := (HW.out.block g hg).1; simp; omega)))
    · repeat (first | with_reducible exact HB.out | with_reducible refine Below.drew ?_ | ((with_reducible refine Below.setCell ?_ ?_ _); rotate_left; (simp; try omega)))
set_option maxRecDepth 100000 in
set_option maxHeartbeats 500000 in
theorem rHear_on_t (t0 : 0 ≤ time) (t1 : time ≤ 4294967295) (r0 : 0 ≤ rt) (r1 : rt ≤ 4294967295) (d0 : 0 ≤ d) (d1 : d ≤ 65535) (l0 : -9223372036854775808 ≤ rl) (l1 : rl ≤ 9223372036854775807) (hD1 : 1 ≤ (time - rt + 4294967296) % 4294967296) (hD2 : (time - rt + 4294967296) % 4294967296 < 2147483648) :
    Calls Try.prog 13 #[.agg #[.bool true, .int .u32 rt, .int .u8 rc, .int .i64 rl, .bool true], .int .u32 time, .agg #[.int .u8 c, .bool true, .int .u8 v, .int .u16 d]] w (Ev.HearR w (⟨true, time, c, d, true⟩, [⟨c, true, time, 0⟩, ⟨c, false, time, d⟩])) := by
  have H0 := Lib.hid (Ev.RS.start w ⟨true, rt, rc, rl, true⟩ #[.int .u8 c, .bool true, .int .u8 v, .int .u16 d])
  have HE := Lib.hid (show (time - rt + 4294967296) % 4294967296 = (time - rt) % 4294967296 by omega)
  go_enter Try.func13, Try.ntmps13
  go_wp2_with (first | (at_builtin; refine wpList_append_one rfl (.tmp 46) (.tmp 51) 26 rfl (w.heap.size + 3) 70 4 16 _ Try.underlying26 Ev.info_key rfl (by decide) (none) 0 0 _ rfl H0.out.own [.int .u8 c, .bool true, .int .u32 time, .int .i64 (0)] rfl (by simp [Value.oneCell']) (by rw [Ev.RS.start_size]; rfl) (by unfold maxLen; omega) (by omega) (by rw [Ev.RS.start_size]; omega) ?_; intro A2 c2 w2 hown2 hg2 hlt2; have HH2 := Lib.hid (H0.out.grown hg2 hown2); obtain ⟨s0, s1, s2, s3, s4, s5, s6, s7, s8, s9, s10, s11, s12, s13, s14, s15, s16, s17, s18, s19⟩ := HH2.out.seen; clear hown2 hg2 hlt2) | (at_builtin; refine wpList_append_one rfl (.tmp 55) (.tmp 63) 26 rfl (w.heap.size + 3) 70 4 16 _ Try.underlying26 Ev.info_key rfl (by decide) (A2) 1 c2 _ rfl HH2.out.own [.int .u8 c, .bool false, .int .u32 time, .int .i64 (d)] rfl (by simp [Value.oneCell']) rfl (by unfold maxLen; omega) (by omega) (by omega) ?_; intro A3 c3 w3 hown3 hg3 hlt3; have HH3 := Lib.hid (HH2.out.grown hg3 hown3); clear s0 s1 s2 s3 s4 s5 s6 s7 s8 s9 s10 s11 s12 s13 s14 s15 s16 s17 s18 s19; obtain ⟨s0, s1, s2, s3, s4, s5, s6, s7, s8, s9, s10, s11, s12, s13, s14, s15, s16, s17, s18, s19⟩ := HH3.out.seen; clear hown3 hg3 hlt3))
  refine bodyPost_ret (v := .tuple #[.agg #[.bool true, .int .u32 time, .int .u8 c, .int .i64 (d), .bool true], .slice A3 2 c3]) ?_ rfl ?_
  · simp [results, Try.results13, go_sem, *]
  · have HB := Lib.hid HH3.out.bel
    have HO := HH3.out.own
    have HW := Lib.hid HO
    clear HO s0 s1 s2 s3 s4 s5 s6 s7 s8 s9 s10 s11 s12 s13 s14 s15 s16 s17 s18 s19
    refine Ev.HearR.mk rfl ?_ ?_
    · refine Owns.rowsNew (B := w.heap.size) (base := w.heap.size + 3) (e := 70) (n := 2) (c := c3) ?_ rfl (fun _ => rfl)
      have HX : Owns w3 (w.heap.size + 3) 70 4 A3 2 c3 (List.flatMap Ev.Key.row [⟨c, true, time, 0⟩, ⟨c, false, time, d⟩]) := by
        have := HW.out
        simpa [Ev.Key.row] using this
      repeat (first | with_reducible exact HX | with_reducible refine Owns.drew ?_ | ((with_reducible refine Owns.setCell ?_ ?_ _); rotate_left; (intro g hg; have := (HW.out.block g hg).1; simp; omega)))
    · repeat (first | with_reducible exact HB.out | with_reducible refine Below.drew ?_ | ((with_reducible refine Below.setCell ?_ ?_ _); rotate_left; (simp; try omega)))
set_option maxRecDepth 100000 in
set_option maxHeartbeats 500000 in
theorem rHear_pre_f (t0 : 0 ≤ time) (t1 : time ≤ 4294967295) (r0 : 0 ≤ rt) (r1 : rt ≤ 4294967295) (d0 : 0 ≤ d) (d1 : d ≤ 65535) (l0 : -9223372036854775808 ≤ rl) (l1 : rl ≤ 9223372036854775807) (hD1 : 1 ≤ (time - rt + 4294967296) % 4294967296) (hD2 : (time - rt + 4294967296) % 4294967296 < 2147483648) :
    Calls Try.prog 13 #[.agg #[.bool true, .int .u32 rt, .int .u8 rc, .int .i64 rl, .bool false], .int .u32 time, .agg #[.int .u8 c, .bool false, .int .u8 v, .int .u16 d]] w (Ev.HearR w (⟨true, time, c, d, false⟩, [⟨rc, false, rt, rl⟩, ⟨c, true, time, 0⟩])) := by
  have H0 := Lib.hid (Ev.RS.start w ⟨true, rt, rc, rl, false⟩ #[.int .u8 c, .bool false, .int .u8 v, .int .u16 d])
  have HE := Lib.hid (show (time - rt + 4294967296) % 4294967296 = (time - rt) % 4294967296 by omega)
  go_enter Try.func13, Try.ntmps13
  go_wp2_with (first | (at_builtin; refine wpList_append_one rfl (.tmp 36) (.tmp 44) 26 rfl (w.heap.size + 3) 70 4 16 _ Try.underlying26 Ev.info_key rfl (by decide) (none) 0 0 _ rfl H0.out.own [.int .u8 rc, .bool false, .int .u32 rt, .int .i64 (rl)] rfl (by simp [Value.oneCell']) (by rw [Ev.RS.start_size]; rfl) (by unfold maxLen; omega) (by omega) (by rw [Ev.RS.start_size]; omega) ?_; intro A1 c1 w1 hown1 hg1 hlt1; have HH1 := Lib.hid (H0.out.grown hg1 hown1); obtain ⟨s0, s1, s2, s3, s4, s5, s6, s7, s8, s9, s10, s11, s12, s13, s14, s15, s16, s17, s18, s19⟩ := HH1.out.seen; clear hown1 hg1 hlt1) | (at_builtin; refine wpList_append_one rfl (.tmp 46) (.tmp 51) 26 rfl (w.heap.size + 3) 70 4 16 _ Try.underlying26 Ev.info_key rfl (by decide) (A1) 1 c1 _ rfl HH1.out.own [.int .u8 c, .bool true, .int .u32 time, .int .i64 (0)] rfl (by simp [Value.oneCell']) rfl (by unfold maxLen; omega) (by omega) (by omega) ?_; intro A2 c2 w2 hown2 hg2 hlt2; have HH2 := Lib.hid (HH1.out.grown hg2 hown2); clear s0 s1 s2 s3 s4 s5 s6 s7 s8 s9 s10 s11 s12 s13 s14 s15 s16 s17 s18 s19; obtain ⟨s0, s1, s2, s3, s4, s5, s6, s7, s8, s9, s10, s11, s12, s13, s14, s15, s16, s17, s18, s19⟩ := HH2.out.seen; clear hown2 hg2 hlt2))
  refine bodyPost_ret (v := .tuple #[.agg #[.bool true, .int .u32 time, .int .u8 c, .int .i64 (d), .bool false], .slice A2 2 c2]) ?_ rfl ?_
  · simp [results, Try.results13, go_sem, *]
  · have HB := Lib.hid HH2.out.bel
    have HO := HH2.out.own
    have HW := Lib.hid HO
    clear HO s0 s1 s2 s3 s4 s5 s6 s7 s8 s9 s10 s11 s12 s13 s14 s15 s16 s17 s18 s19
    refine Ev.HearR.mk rfl ?_ ?_
    · refine Owns.rowsNew (B := w.heap.size) (base := w.heap.size + 3) (e := 70) (n := 2) (c := c2) ?_ rfl (fun _ => rfl)
      have HX : Owns w2 (w.heap.size + 3) 70 4 A2 2 c2 (List.flatMap Ev.Key.row [⟨rc, false, rt, rl⟩, ⟨c, true, time, 0⟩]) := by
        have := HW.out
        simpa [Ev.Key.row] using this
      repeat (first | with_reducible exact HX | with_reducible refine Owns.drew ?_ | ((with_reducible refine Owns.setCell ?_ ?_ _); rotate_left; (intro g hg; have := (HW.out.block g hg).1; simp; omega)))
    · repeat (first | with_reducible exact HB.out | with_reducible refine Below.drew ?_ | ((with_reducible refine Below.setCell ?_ ?_ _); rotate_left; (simp; try omega)))
set_option maxRecDepth 100000 in
set_option maxHeartbeats 500000 in
theorem rHear_pre_t (t0 : 0 ≤ time) (t1 : time ≤ 4294967295) (r0 : 0 ≤ rt) (r1 : rt ≤ 4294967295) (d0 : 0 ≤ d) (d1 : d ≤ 65535) (l0 : -9223372036854775808 ≤ rl) (l1 : rl ≤ 9223372036854775807) (hD1 : 1 ≤ (time - rt + 4294967296) % 4294967296) (hD2 : (time - rt + 4294967296) % 4294967296 < 2147483648) :
    Calls Try.prog 13 #[.agg #[.bool true, .int .u32 rt, .int .u8 rc, .int .i64 rl, .bool false], .int .u32 time, .agg #[.int .u8 c, .bool true, .int .u8 v, .int .u16 d]] w (Ev.HearR w (⟨true, time, c, d, true⟩, [⟨rc, false, rt, rl⟩, ⟨c, true, time, 0⟩, ⟨c, false, time, d⟩])) := by
  have H0 := Lib.hid (Ev.RS.start w ⟨true, rt, rc, rl, false⟩ #[.int .u8 c, .bool true, .int .u8 v, .int .u16 d])
  have HE := Lib.hid (show (time - rt + 4294967296) % 4294967296 = (time - rt) % 4294967296 by omega)
  go_enter Try.func13, Try.ntmps13
  go_wp2_with (first | (at_builtin; refine wpList_append_one rfl (.tmp 36) (.tmp 44) 26 rfl (w.heap.size + 3) 70 4 16 _ Try.underlying26 Ev.info_key rfl (by decide) (none) 0 0 _ rfl H0.out.own [.int .u8 rc, .bool false, .int .u32 rt, .int .i64 (rl)] rfl (by simp [Value.oneCell']) (by rw [Ev.RS.start_size]; rfl) (by unfold maxLen; omega) (by omega) (by rw [Ev.RS.start_size]; omega) ?_; intro A1 c1 w1 hown1 hg1 hlt1; have HH1 := Lib.hid (H0.out.grown hg1 hown1); obtain ⟨s0, s1, s2, s3, s4, s5, s6, s7, s8, s9, s10, s11, s12, s13, s14, s15, s16, s17, s18, s19⟩ := HH1.out.seen; clear hown1 hg1 hlt1) | (at_builtin; refine wpList_append_one rfl (.tmp 46) (.tmp 51) 26 rfl (w.heap.size + 3) 70 4 16 _ Try.underlying26 Ev.info_key rfl (by decide) (A1) 1 c1 _ rfl HH1.out.own [.int .u8 c, .bool true, .int .u32 time, .int .i64 (0)] rfl (by simp [Value.oneCell']) rfl (by unfold maxLen; omega) (by omega) (by omega) ?_; intro A2 c2 w2 hown2 hg2 hlt2; have HH2 := Lib.hid (HH1.out.grown hg2 hown2); clear s0 s1 s2 s3 s4 s5 s6 s7 s8 s9 s10 s11 s12 s13 s14 s15 s16 s17 s18 s19; obtain ⟨s0, s1, s2, s3, s4, s5, s6, s7, s8, s9, s10, s11, s12, s13, s14, s15, s16, s17, s18, s19⟩ := HH2.out.seen; clear hown2 hg2 hlt2) | (at_builtin; refine wpList_append_one rfl (.tmp 55) (.tmp 63) 26 rfl (w.heap.size + 3) 70 4 16 _ Try.underlying26 Ev.info_key rfl (by decide) (A2) 2 c2 _ rfl HH2.out.own [.int .u8 c, .bool false, .int .u32 time, .int .i64 (d)] rfl (by simp [Value.oneCell']) rfl (by unfold maxLen; omega) (by omega) (by omega) ?_; intro A3 c3 w3 hown3 hg3 hlt3; have HH3 := Lib.hid (HH2.out.grown hg3 hown3); clear s0 s1 s2 s3 s4 s5 s6 s7 s8 s9 s10 s11 s12 s13 s14 s15 s16 s17 s18 s19; obtain ⟨s0, s1, s2, s3, s4, s5, s6, s7, s8, s9, s10, s11, s12, s13, s14, s15, s16, s17, s18, s19⟩ := HH3.out.seen; clear hown3 hg3 hlt3))
  refine bodyPost_ret (v := .tuple #[.agg #[.bool true, .int .u32 time, .int .u8 c, .int .i64 (d), .bool true], .slice A3 3 c3]) ?_ rfl ?_
  · simp [results, Try.results13, go_sem, *]
  · have HB := Lib.hid HH3.out.bel
    have HO := HH3.out.own
    have HW := Lib.hid HO
    clear HO s0 s1 s2 s3 s4 s5 s6 s7 s8 s9 s10 s11 s12 s13 s14 s15 s16 s17 s18 s19
    refine Ev.HearR.mk rfl ?_ ?_
    · refine Owns.rowsNew (B := w.heap.size) (base := w.heap.size + 3) (e := 70) (n := 3) (c := c3) ?_ rfl (fun _ => rfl)
      have HX : Owns w3 (w.heap.size + 3) 70 4 A3 3 c3 (List.flatMap Ev.Key.row [⟨rc, false, rt, rl⟩, ⟨c, true, time, 0⟩, ⟨c, false, time, d⟩]) := by
        have := HW.out
        simpa [Ev.Key.row] using this
      repeat (first | with_reducible exact HX | with_reducible refine Owns.drew ?_ | ((with_reducible refine Owns.setCell ?_ ?_ _); rotate_left; (intro g hg; have := (HW.out.block g hg).1; simp; omega)))
    · repeat (first | with_reducible exact HB.out | with_reducible refine Below.drew ?_ | ((with_reducible refine Below.setCell ?_ ?_ _); rotate_left; (simp; try omega)))
set_option maxRecDepth 100000 in
set_option maxHeartbeats 500000 in
theorem rHear_same_f_hi (t0 : 0 ≤ time) (t1 : time ≤ 4294967295) (r0 : 0 ≤ rt) (r1 : rt ≤ 4294967295) (d0 : 0 ≤ d) (d1 : d ≤ 65535) (l0 : -9223372036854775808 ≤ rl) (l1 : rl ≤ 9223372036854775807) (hD : (time - rt + 4294967296) % 4294967296 = 0) (hm : rl < d) :
    Calls Try.prog 13 #[.agg #[.bool true, .int .u32 rt, .int .u8 c, .int .i64 rl, .bool false], .int .u32 time, .agg #[.int .u8 c, .bool false, .int .u8 v, .int .u16 d]] w (Ev.HearR w (⟨true, rt, c, d, false⟩, [])) := by
  have HE := Lib.hid (show (time - rt + 4294967296) % 4294967296 = (time - rt) % 4294967296 by omega)
  go_enter Try.func13, Try.ntmps13
  go_wp2
  refine bodyPost_ret (v := .tuple #[.agg #[.bool true, .int .u32 rt, .int .u8 c, .int .i64 (d), .bool false], .slice none 0 0]) ?_ rfl ?_
  · simp [results, Try.results13, go_sem]
  · refine Ev.HearR.mk rfl RowsNew.nil ?_
    repeat (first | exact Below.refl _ _ | refine Below.drew ?_ | refine Below.setCell ?_ (by simp) _ | refine Below.alloc ?_ (by simp; try omega) _)
set_option maxRecDepth 100000 in
set_option maxHeartbeats 500000 in
theorem rHear_same_t_hi (t0 : 0 ≤ time) (t1 : time ≤ 4294967295) (r0 : 0 ≤ rt) (r1 : rt ≤ 4294967295) (d0 : 0 ≤ d) (d1 : d ≤ 65535) (l0 : -9223372036854775808 ≤ rl) (l1 : rl ≤ 9223372036854775807) (hD : (time - rt + 4294967296) % 4294967296 = 0) (hm : rl < d) :
    Calls Try.prog 13 #[.agg #[.bool true, .int .u32 rt, .int .u8 c, .int .i64 rl, .bool false], .int .u32 time, .agg #[.int .u8 c, .bool true, .int .u8 v, .int .u16 d]] w (Ev.HearR w (⟨true, rt, c, d, true⟩, [⟨c, false, rt, d⟩])) := by
  have H0 := Lib.hid (Ev.RS.start w ⟨true, rt, c, d, true⟩ #[.int .u8 c, .bool true, .int .u8 v, .int .u16 d])
  have HE := Lib.hid (show (time - rt + 4294967296) % 4294967296 = (time - rt) % 4294967296 by omega)
  go_enter Try.func13, Try.ntmps13
  go_wp2_with (at_builtin; refine wpList_append_one rfl (.tmp 102) (.tmp 110) 26 rfl (w.heap.size + 3) 70 4 16 _ Try.underlying26 Ev.info_key rfl (by decide) (none) 0 0 _ rfl H0.out.own [.int .u8 c, .bool false, .int .u32 rt, .int .i64 (d)] rfl (by simp [Value.oneCell']) (by rw [Ev.RS.start_size]; rfl) (by unfold maxLen; omega) (by omega) (by rw [Ev.RS.start_size]; omega) ?_; intro A2 c2 w2 hown2 hg2 hlt2; have HH2 := Lib.hid (H0.out.grown hg2 hown2); obtain ⟨s0, s1, s2, s3, s4, s5, s6, s7, s8, s9, s10, s11, s12, s13, s14, s15, s16, s17, s18, s19⟩ := HH2.out.seen; clear hown2 hg2 hlt2)
  refine bodyPost_ret (v := .tuple #[.agg #[.bool true, .int .u32 rt, .int .u8 c, .int .i64 (d), .bool true], .slice A2 1 c2]) ?_ rfl ?_
  · simp [results, Try.results13, go_sem, *]
  · have HB := Lib.hid HH2.out.bel
    have HO := HH2.out.own
    have HW := Lib.hid HO
    clear HO s0 s1 s2 s3 s4 s5 s6 s7 s8 s9 s10 s11 s12 s13 s14 s15 s16 s17 s18 s19
    refine Ev.HearR.mk rfl ?_ ?_
    · refine Owns.rowsNew (B := w.heap.size) (base := w.heap.size + 3) (e := 70) (n := 1) (c := c2) ?_ rfl (fun _ => rfl)
      have HX : Owns w2 (w.heap.size + 3) 70 4 A2 1 c2 (List.flatMap Ev.Key.row [⟨c, false, rt, d⟩]) := by
        have := HW.out
        simpa [Ev.Key.row] using this
      repeat (first | with_reducible exact HX | with_reducible refine Owns.drew ?_ | ((with_reducible refine Owns.setCell ?_ ?_ _); rotate_left; (intro g hg; have := (HW.out.block g hg).1; simp; omega)))
    · repeat (first | with_reducible exact HB.out | with_reducible refine Below.drew ?_ | ((with_reducible refine Below.setCell ?_ ?_ _); rotate_left; (simp; try omega)))
set_option maxRecDepth 100000 in
set_option maxHeartbeats 500000 in
theorem rHear_same_f_lo (t0 : 0 ≤ time) (t1 : time ≤ 4294967295) (r0 : 0 ≤ rt) (r1 : rt ≤ 4294967295) (d0 : 0 ≤ d) (d1 : d ≤ 65535) (l0 : -9223372036854775808 ≤ rl) (l1 : rl ≤ 9223372036854775807) (hD : (time - rt + 4294967296) % 4294967296 = 0) (hm : decide (rl < d) = false) :
    Calls Try.prog 13 #[.agg #[.bool true, .int .u32 rt, .int .u8 c, .int .i64 rl, .bool false], .int .u32 time, .agg #[.int .u8 c, .bool false, .int .u8 v, .int .u16 d]] w (Ev.HearR w (⟨true, rt, c, rl, false⟩, [])) := by
  have HE := Lib.hid (show (time - rt + 4294967296) % 4294967296 = (time - rt) % 4294967296 by omega)
  go_enter Try.func13, Try.ntmps13
  go_wp2
  refine bodyPost_ret (v := .tuple #[.agg #[.bool true, .int .u32 rt, .int .u8 c, .int .i64 (rl), .bool false], .slice none 0 0]) ?_ rfl ?_
  · simp [results, Try.results13, go_sem]
  · refine Ev.HearR.mk rfl RowsNew.nil ?_
    repeat (first | exact Below.refl _ _ | refine Below.drew ?_ | refine Below.setCell ?_ (by simp) _ | refine Below.alloc ?_ (by simp; try omega) _)
set_option maxRecDepth 100000 in
set_option maxHeartbeats 500000 in
theorem rHear_same_t_lo (t0 : 0 ≤ time) (t1 : time ≤ 4294967295) (r0 : 0 ≤ rt) (r1 : rt ≤ 4294967295) (d0 : 0 ≤ d) (d1 : d ≤ 65535) (l0 : -9223372036854775808 ≤ rl) (l1 : rl ≤ 9223372036854775807) (hD : (time - rt + 4294967296) % 4294967296 = 0) (hm : decide (rl < d) = false) :
    Calls Try.prog 13 #[.agg #[.bool true, .int .u32 rt, .int .u8 c, .int .i64 rl, .bool false], .int .u32 time, .agg #[.int .u8 c, .bool true, .int .u8 v, .int .u16 d]] w (Ev.HearR w (⟨true, rt, c, rl, true⟩, [⟨c, false, rt, rl⟩])) := by
  have H0 := Lib.hid (Ev.RS.start w ⟨true, rt, c, rl, true⟩ #[.int .u8 c, .bool true, .int .u8 v, .int .u16 d])
  have HE := Lib.hid (show (time - rt + 4294967296) % 4294967296 = (time - rt) % 4294967296 by omega)
  go_enter Try.func13, Try.ntmps13
  go_wp2_with (at_builtin; refine wpList_append_one rfl (.tmp 102) (.tmp 110) 26 rfl (w.heap.size + 3) 70 4 16 _ Try.underlying26 Ev.info_key rfl (by decide) (none) 0 0 _ rfl H0.out.own [.int .u8 c, .bool false, .int .u32 rt, .int .i64 (rl)] rfl (by simp [Value.oneCell']) (by rw [Ev.RS.start_size]; rfl) (by unfold maxLen; omega) (by omega) (by rw [Ev.RS.start_size]; omega) ?_; intro A2 c2 w2 hown2 hg2 hlt2; have HH2 := Lib.hid (H0.out.grown hg2 hown2); obtain ⟨s0, s1, s2, s3, s4, s5, s6, s7, s8, s9, s10, s11, s12, s13, s14, s15, s16, s17, s18, s19⟩ := HH2.out.seen; clear hown2 hg2 hlt2)
  refine bodyPost_ret (v := .tuple #[.agg #[.bool true, .int .u32 rt, .int .u8 c, .int .i64 (rl), .bool true], .slice A2 1 c2]) ?_ rfl ?_
  · simp [results, Try.results13, go_sem, *]
  · have HB := Lib.hid HH2.out.bel
    have HO := HH2.out.own
    have HW := Lib.hid HO
    clear HO s0 s1 s2 s3 s4 s5 s6 s7 s8 s9 s10 s11 s12 s13 s14 s15 s16 s17 s18 s19
    refine Ev.HearR.mk rfl ?_ ?_
    · refine Owns.rowsNew (B := w.heap.size) (base := w.heap.size + 3) (e := 70) (n := 1) (c := c2) ?_ rfl (fun _ => rfl)
      have HX : Owns w2 (w.heap.size + 3) 70 4 A2 1 c2 (List.flatMap Ev.Key.row [⟨c, false, rt, rl⟩]) := by
        have := HW.out
        simpa [Ev.Key.row] using this
      repeat (first | with_reducible exact HX | with_reducible refine Owns.drew ?_ | ((with_reducible refine Owns.setCell ?_ ?_ _); rotate_left; (intro g hg; have := (HW.out.block g hg).1; simp; omega)))
    · repeat (first | with_reducible exact HB.out | with_reducible refine Below.drew ?_ | ((with_reducible refine Below.setCell ?_ ?_ _); rotate_left; (simp; try omega)))
set_option maxRecDepth 100000 in
set_option maxHeartbeats 500000 in
theorem rHear_late (re f : Bool) (t0 : 0 ≤ time) (t1 : time ≤ 4294967295) (r0 : 0 ≤ rt) (r1 : rt ≤ 4294967295) (d0 : 0 ≤ d) (d1 : d ≤ 65535) (l0 : -9223372036854775808 ≤ rl) (l1 : rl ≤ 9223372036854775807) (hD : 2147483648 ≤ (time - rt + 4294967296) % 4294967296) (hD0 : ((time - rt + 4294967296) % 4294967296 == 0) = false) (hD2 : ((time - rt + 4294967296) % 4294967296 != 0) = true) (hD1 : decide ((time - rt + 4294967296) % 4294967296 < 2147483648) = false) :
    Calls Try.prog 13 #[.agg #[.bool true, .int .u32 rt, .int .u8 rc, .int .i64 rl, .bool re], .int .u32 time, .agg #[.int .u8 c, .bool f, .int .u8 v, .int .u16 d]] w (Ev.HearR w (⟨true, rt, rc, rl, re⟩, [])) := by
  have HE := Lib.hid (show (time - rt + 4294967296) % 4294967296 = (time - rt) % 4294967296 by omega)
  go_enter Try.func13, Try.ntmps13
  go_wp2
  refine bodyPost_ret (v := .tuple #[.agg #[.bool true, .int .u32 rt, .int .u8 rc, .int .i64 (rl), .bool re], .slice none 0 0]) ?_ rfl ?_
  · simp [results, Try.results13, go_sem]
  · refine Ev.HearR.mk rfl RowsNew.nil ?_
    repeat (first | exact Below.refl _ _ | refine Below.drew ?_ | refine Below.setCell ?_ (by simp) _ | refine Below.alloc ?_ (by simp; try omega) _)
set_option maxRecDepth 100000 in
set_option maxHeartbeats 500000 in
theorem rHear_other (re f : Bool) (t0 : 0 ≤ time) (t1 : time ≤ 4294967295) (r0 : 0 ≤ rt) (r1 : rt ≤ 4294967295) (d0 : 0 ≤ d) (d1 : d ≤ 65535) (l0 : -9223372036854775808 ≤ rl) (l1 : rl ≤ 9223372036854775807) (hD : (time - rt + 4294967296) % 4294967296 = 0) (hc : (c == rc) = false) (hc2 : (c != rc) = true) :
    Calls Try.prog 13 #[.agg #[.bool true, .int .u32 rt, .int .u8 rc, .int .i64 rl, .bool re], .int .u32 time, .agg #[.int .u8 c, .bool f, .int .u8 v, .int .u16 d]] w (Ev.HearR w (⟨true, rt, rc, rl, re⟩, [])) := by
  have HE := Lib.hid (show (time - rt + 4294967296) % 4294967296 = (time - rt) % 4294967296 by omega)
  go_enter Try.func13, Try.ntmps13
  go_wp2
  refine bodyPost_ret (v := .tuple #[.agg #[.bool true, .int .u32 rt, .int .u8 rc, .int .i64 (rl), .bool re], .slice none 0 0]) ?_ rfl ?_
  · simp [results, Try.results13, go_sem]
  · refine Ev.HearR.mk rfl RowsNew.nil ?_
    repeat (first | exact Below.refl _ _ | refine Below.drew ?_ | refine Below.setCell ?_ (by simp) _ | refine Below.alloc ?_ (by simp; try omega) _)
set_option maxRecDepth 100000 in
set_option maxHeartbeats 500000 in
theorem rHear_over (f : Bool) (t0 : 0 ≤ time) (t1 : time ≤ 4294967295) (r0 : 0 ≤ rt) (r1 : rt ≤ 4294967295) (d0 : 0 ≤ d) (d1 : d ≤ 65535) (l0 : -9223372036854775808 ≤ rl) (l1 : rl ≤ 9223372036854775807) (hD : (time - rt + 4294967296) % 4294967296 = 0) :
    Calls Try.prog 13 #[.agg #[.bool true, .int .u32 rt, .int .u8 c, .int .i64 rl, .bool true], .int .u32 time, .agg #[.int .u8 c, .bool f, .int .u8 v, .int .u16 d]] w (Ev.HearR w (⟨true, rt, c, rl, true⟩, [])) := by
  have HE := Lib.hid (show (time - rt + 4294967296) % 4294967296 = (time - rt) % 4294967296 by omega)
  go_enter Try.func13, Try.ntmps13
  go_wp2
  refine bodyPost_ret (v := .tuple #[.agg #[.bool true, .int .u32 rt, .int .u8 c, .int .i64 (rl), .bool true], .slice none 0 0]) ?_ rfl ?_
  · simp [results, Try.results13, go_sem]
  · refine Ev.HearR.mk rfl RowsNew.nil ?_
    repeat (first | exact Below.refl _ _ | refine Below.drew ?_ | refine Below.setCell ?_ (by simp) _ | refine Below.alloc ?_ (by simp; try omega) _)
end
end Go.Proofs.Ytangooegialmcaa
