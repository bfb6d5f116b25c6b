/- Layer 28: sizes returns the array of the steps; Size of the program and of the reference. -/
import Derived.Test.YtcnijhcoifodpaaRows
import Derived.Test.YtcnijhcoifodpaaDelPlain
import Derived.Test.YtcnijhcoifodpaaMem
import Derived.WalkSpells
import Derived.WalkLawsBesides
import Derived.Deep.MidRow
import Derived.Outline
import Derived.Test.YtcnijhcoifodpaaRes
namespace Go.Proofs.Ytcnijhcoifodpaa
open Go.RowKit
set_option linter.unusedVariables false
theorem ret_int' {k : IntKind} {a b : Int} (h : a = b) : Ending.returned (.int k a) = .returned (.int k b) := by rw [h]
theorem zero89 (w : World) : (zeroValue 46).run Try.prog w = .ok (.agg Dlt.zeroA) w := by kernel_rfl
theorem info89 : (Try.prog.info? 46).map (·.size) = some 89 := by kernel_rfl
theorem info89' : (Try.prog.info? 46).map (·.size) = some Dlt.szL.length := by rw [Dlt.szL_len]; exact info89
theorem info89'' : (Try.prog.info? 46).map (·.size) = some Dlt.szL.toArray.size := by
  have e89 : Dlt.szL.toArray.size = 89 := by simp [Dlt.szL]
  rw [e89]; exact info89
theorem below_setCells {B : Nat} {a : World} {b : Nat} (hb : B ≤ b) : ∀ (vs : List Value) (o : Nat) (w : World), Below B a w → Below B a (w.setCells b o vs)
  | [], _, _, h => h
  | v :: r, o, w, h => by
    rw [World.setCells]
    exact below_setCells hb r (o + 1) _ (h.setCell (p := ⟨b, o, none⟩) hb v)
set_option maxHeartbeats 400000 in
theorem sizesNext (b : Nat) (s : Int) (w : World) (hc : w.cell? ⟨b, 0, none⟩ = some (.int .i64 s)) (hf : w.frozen? ⟨b, 0, none⟩ = false) (h0 : 7 ≤ s) (h1 : s ≤ 32767) :
    Calls Try.prog 30 #[.pointer (some ⟨b, 0, none⟩)] w fun e w' => e = .returned (.int .i64 s) ∧ w.setCell ⟨b, 0, none⟩ (.int .i64 (min (s + (s + 5) / 10) 32767)) = w' := by
  by_cases h : 32767 < s + (s + 5) / 10
  · go_enter Try.func30, Try.ntmps30
    go_wp2
    go_ret
    refine ⟨rfl, ?_⟩
    congr 2
    omega
  · go_enter Try.func30, Try.ntmps30
    go_wp2
    go_ret
    refine ⟨rfl, ?_⟩
    congr 2
    omega
theorem zeroRow (w : World) : (w.alloc (.cells Dlt.zeroA 46)).rowIs w.heap.size 46 89 (fun _ => .int .i64 0) := by
  have h := World.rowIs_alloc w Dlt.zeroA 46 (fun _ => .int .i64 0) (fun i hi => by
    have : i < 89 := by simpa [Dlt.zeroA] using hi
    simp [Dlt.zeroA, this])
  have e : Dlt.zeroA.size = 89 := by simp [Dlt.zeroA]
  rwa [e] at h
/-- an own row of 89 steps, as a range -/
theorem row_range {w : World} {b : Nat} {t : TypeId} (h : w.rowIs b t 89 (fun j => .int .i64 (if j < 89 then Dlt.st j else 0))) : w.rangeAt b 0 Dlt.szL := fun j v hv => by
  have hj : j < 89 := by have := (List.getElem?_eq_some_iff.1 hv).1; rwa [Dlt.szL_len] at this
  rw [Nat.zero_add, h.cell hj, if_pos hj]
  rw [Dlt.szL_at j hj] at hv
  exact hv
theorem row_there {w : World} {b n : Nat} {t : TypeId} {f : Nat → Value} (h : w.rowIs b t n f) : w.there b 0 n := fun j hj => by
  rw [Nat.zero_add]
  exact ⟨by rw [h.cell hj]; rfl, h.frozen j⟩
/-- what the walk of sizes does: the array is filled and copied into the result -/
def SizesEnd (w : World) (e : Ending) (w' : World) : Prop := e = .returned (.agg Dlt.szA) ∧ Below w.heap.size w w'
set_option maxHeartbeats 800000 in
theorem sizes_end (w : World) : Calls Try.prog 24 #[] w (SizesEnd w) := by
  have hz := zero89
  have r0 := ((zeroRow w).alloc (.cells Dlt.zeroA 46)).alloc (.cells #[.int .i64 7] 3)
  have r1 := (zeroRow (w.alloc (.cells Dlt.zeroA 46))).alloc (.cells #[.int .i64 7] 3)
  have hb : Below w.heap.size w (((w.alloc (.cells Dlt.zeroA 46)).alloc (.cells Dlt.zeroA 46)).alloc (.cells #[.int .i64 7] 3)) :=
    (((Below.refl _ _).alloc (Nat.le_refl _) _).alloc (by simp) _).alloc (by simp; omega) _
  have r2 : (((w.alloc (.cells Dlt.zeroA 46)).alloc (.cells Dlt.zeroA 46)).alloc (.cells #[.int .i64 7] 3)).rowIs (w.heap.size + 1 + 1) 3 1 (fun _ => .int .i64 7) := by
    have h := World.rowIs_alloc ((w.alloc (.cells Dlt.zeroA 46)).alloc (.cells Dlt.zeroA 46)) #[.int .i64 7] 3 (fun _ => .int .i64 7) (fun i hi => by
      have : i = 0 := by simpa using hi
      subst this; rfl)
    simpa using h
  have R0 := Lib.hid r0
  have R1 := Lib.hid r1
  have R2 := Lib.hid r2
  have HB := Lib.hid hb
  clear r0 r1 r2 hb
  go_enter Try.func24, Try.ntmps24
  go_wp2_with fail
  go_loopw [6] (fun i wr => ∃ k : Nat, k ≤ 89 ∧ i = .int .i64 k ∧ wr.rowIs w.heap.size 46 89 (fun _ => .int .i64 0) ∧
      wr.rowIs (w.heap.size + 1) 46 89 (fun j => .int .i64 (if j < k then Dlt.st j else 0)) ∧ wr.rowIs (w.heap.size + 1 + 1) 3 1 (fun _ => .int .i64 (Dlt.st k)) ∧ Below w.heap.size w wr)
    (fun i _ => 89 - (intOf i).toNat)
  case atStart => exact ⟨0, by omega, rfl, by simpa using R0.out, by simpa using R1.out, by simpa [Dlt.st] using R2.out, HB.out⟩
  case round =>
    obtain ⟨k, hk, rfl, q0, q1, q2, hb⟩ := hrel
    have hz0 := q0.lt
    have hz1 := q1.lt
    have hz2 := q2.lt
    by_cases hlt : (k : Int) < 89
    · have hc1 : wr.cell? ⟨w.heap.size + 1, k, none⟩ = some (.int .i64 0) := by rw [q1.cell (by omega)]; simp
      have hf1 := q1.frozen k
      have hc2 := q2.cell (i := 0) (by omega)
      have hf2 := q2.frozen 0
      obtain ⟨s0, s1⟩ := Dlt.st_bd k
      have Q0 := Lib.hid q0
      have Q1 := Lib.hid q1
      have Q2 := Lib.hid q2
      clear q0 q1 q2 hz
      go_wp2_with (go_at_call 30; refine (sizesNext _ _ _ hc2 hf2 s0 s1).mono ?_; rintro e w' ⟨rfl, rfl⟩)
      go_roundw
      case rel =>
        refine ⟨k + 1, by omega, by go_num, (Q0.out.setOther (by simp; omega) _).setOther (by simp) _, ?_, ?_, (hb.setCell (by simp; omega) _).setCell (by simp) _⟩
        · exact rowIs_fill (g := Dlt.st) (Q1.out.setOther (by simp) _)
        · exact ((Q2.out.set 0 _).setOther (by simp) _).congr fun i hi => by
            have : i = 0 := by omega
            subst this; rfl
      case measure => simp [intOf]; omega
    · obtain rfl : k = 89 := by omega
      have hr := row_range q1
      have ht := row_there q0
      clear q0 q1 q2 hz
      have e89 : Dlt.szL.toArray.size = 89 := by simp [Dlt.szL]
      have HT : Hid (wr.there w.heap.size 0 Dlt.szL.toArray.size) := by rw [e89]; exact ht
      have HI := Lib.hid info89'
      have HI2 := Lib.hid info89''
      have hs := Below.size hb
      clear e89 ht
      go_wp2_with (first
        | (refine wpList_load_mid rfl 46 (.tmp 1) (by rfl) (w.heap.size + 1) 0 (by rfl) Dlt.szL _ hr Try.underlying46 rfl HI.out ?_)
        | (refine wpList_store_mid rfl 46 (.tmp 0) (.tmp 14) (by rfl) w.heap.size 0 Dlt.szL.toArray (by rfl) (by rfl) HT.out HI2.out (all_oneCell_toArray Dlt.szL_one) ?_))
      have hL := run_loadVar_mid (P := Try.prog) (wr.setCells w.heap.size 0 Dlt.szL) w.heap.size 0 46 Dlt.szL _ (World.rangeAt_setCells_same wr w.heap.size 0 Dlt.szL (by have := HT.out; rwa [List.size_toArray] at this)) Try.underlying46 rfl HI.out
      exact bodyPost_ret (v := .agg Dlt.szA) (res_c Try.results24 rfl hL) rfl ⟨rfl, below_setCells (Nat.le_refl _) _ _ _ hb⟩
theorem sizes_any (w : World) :
    Calls Try.prog 24 #[] w fun e w' => e = .returned (.agg Dlt.szA) ∧ Below w.heap.size w w' := sizes_end w

/-- an element of an array of integers -/
theorem run_index_ints {P : Program} (ta te : TypeId) (len : Nat) (k : IntKind) (z : Value) (bytes : Nat) (ha : P.underlying ta = some (.array len te)) (he : P.underlying te = some (.int k)) (hinfo : (P.info? te).map (fun i => (i.zero, i.size, i.bytes)) = some (some z, 1, bytes))
    (cs : Array Value) (n : Nat) (hn : n < len) (v : Value) (hv : cs[n]? = some v) (w : World) : (Instr.index ta (.agg cs) (.int .i64 (n : Int))).run P w = .ok v w := by
  obtain ⟨i, hi, hz0, hz1, hz2⟩ := info_parts hinfo
  have h1 : ¬ len ≤ n := by omega
  simp [Instr.index, asIntOf, run_underlying ha, run_underlying he, part, isAgg, sizeOf, typeInfo, hi, hz1, hv]
  intro h
  exact absurd h h1
theorem info_i64 : (Try.prog.info? 3).map (fun i => (i.zero, i.size, i.bytes)) = some (some (.int .i64 0), 1, 8) := by kernel_rfl
theorem index_sz (i : Int) (w : World) (h0 : 0 ≤ i) (h1 : i ≤ 88) : (Instr.index 46 (.agg Dlt.szA) (.int .i64 i)).run Try.prog w = .ok (.int .i64 (Dlt.st i.toNat)) w := by
  obtain ⟨n, rfl⟩ := Int.eq_ofNat_of_zero_le h0
  exact run_index_ints 46 3 89 .i64 _ 8 Try.underlying46 Try.underlying3 info_i64 _ n (by omega) _ (by rw [Dlt.szA, List.getElem?_toArray, Int.toNat_natCast]; exact Dlt.szL_at n (by omega)) w
set_option maxHeartbeats 400000 in
theorem Size_in (i : Int) (w : World) (h0 : 0 ≤ i) (h1 : i ≤ 88) : Calls Try.prog 18 #[.int .i64 i] w fun e w' => e = .returned (.int .i64 (Dlt.st i.toNat)) ∧ Below w.heap.size w w' := by
  have hx := fun W => index_sz i W h0 h1
  go_enter Try.func18, Try.ntmps18
  go_wp2_with (go_at_call 24; refine (sizes_any _).mono ?_; rintro e w' ⟨rfl, hb⟩)
  go_ret
  exact ⟨rfl, hb⟩
theorem Size_out (i : Int) (w : World) (h : i < 0 ∨ 88 < i) : Calls Try.prog 18 #[.int .i64 i] w fun e w' => e = .returned (.int .i64 0) ∧ Below w.heap.size w w' := by
  by_cases h0 : i < 0
  all_goals
    go_enter Try.func18, Try.ntmps18
    go_wp2_with (go_at_call 24; refine (sizes_any _).mono ?_; rintro e w' ⟨rfl, hb⟩)
    go_ret
    exact ⟨rfl, Below.refl _ _⟩
theorem st_step (k : Nat) : Dlt.st (k + 1) = min (Dlt.st k + (Dlt.st k + 5) / 10) 32767 := rfl
set_option maxHeartbeats 400000 in
theorem rSize_in (i : Int) (w : World) (h0 : 0 ≤ i) (h1 : i ≤ 88) : Calls Try.prog 12 #[.int .i64 i] w fun e w' => e = .returned (.int .i64 (Dlt.st i.toNat)) ∧ w = w' := by
  obtain ⟨n, rfl⟩ := Int.eq_ofNat_of_zero_le h0
  rw [Int.toNat_natCast]
  go_enter Try.func12, Try.ntmps12
  go_wp2
  go_loop [3, 4] (fun s k => ∃ j : Nat, j ≤ n ∧ k = .int .i64 j ∧ s = .int .i64 (Dlt.st j)) (fun _ k => n - (intOf k).toNat)
  case atStart => exact ⟨0, by omega, rfl, rfl⟩
  case round =>
    obtain ⟨j, hj, rfl, rfl⟩ := hrel
    obtain ⟨s0, s1⟩ := Dlt.st_bd j
    by_cases hlt : (j : Int) < n
    · by_cases hc : 32767 < Dlt.st j + (Dlt.st j + 5) / 10
      all_goals
        go_wp2
        go_round
        case rel => exact ⟨j + 1, by omega, by go_num, by rw [st_step]; congr 1; omega⟩
        case measure => simp [intOf]; omega
    · obtain rfl : j = n := by omega
      go_wp2
      go_ret
      exact ⟨rfl, rfl⟩
theorem rSize_out (i : Int) (w : World) (h : i < 0 ∨ 88 < i) : Calls Try.prog 12 #[.int .i64 i] w fun e w' => e = .returned (.int .i64 0) ∧ w = w' := by
  by_cases h0 : i < 0
  all_goals
    go_enter Try.func12, Try.ntmps12
    go_wp2
    go_ret
    exact ⟨rfl, rfl⟩
end Go.Proofs.Ytcnijhcoifodpaa
