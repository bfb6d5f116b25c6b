/- Layer 26: Arrive of the program and of the reference. -/
import Derived.Test.YthmcbmjjngolmaaRepOk
import Derived.Laws.Rows
namespace Go.Proofs.Ythmcbmjjngolmaa
open Go.RowKit
set_option linter.unusedVariables false
set_option linter.unusedSimpArgs false
attribute [local go_sem ↓] run_min_plain run_max_plain
attribute [local go_sem] setCell_drewN alloc_drewN
section
variable (s0 : Bool) (sb sh sr sx sy st sj : Int) (w : World)
variable (q a t : Int)
set_option maxHeartbeats 3200000 in
theorem Arrive_any : Calls Try.prog 12 #[.agg #[.bool s0, .int .i64 sb, .int .i64 sh, .int .i64 sr, .int .i64 sx, .int .i64 sy, .int .i64 st, .int .i64 sj], .int .i64 q, .int .i64 a, .int .i64 t] w fun e w' => e = .returned (.agg (Rep.arrive ⟨s0, sb, sh, sr, sx, sy, st, sj⟩ q a t).row) ∧ Below w.heap.size w w' := by
  obtain ⟨R, hR⟩ : ∃ R, R = Rep.arrive ⟨s0, sb, sh, sr, sx, sy, st, sj⟩ q a t := ⟨_, rfl⟩
  rw [← hR]
  unfold Rep.arrive at hR
  have k0 := fun W => valid_any s0 sb sh sr sx sy st sj W
  have k1 := fun W => small_any q W
  have k2 := fun W => small_any a W
  have k3 := fun W => small_any t W
  have hbd := Rep.okS_bd s0 sb sh sr sx sy st sj
  have hq := (Rep.inB_iff (-281474976710656) 281474976710656 q).1
  have ha := (Rep.inB_iff (-281474976710656) 281474976710656 a).1
  have ht := (Rep.inB_iff (-281474976710656) 281474976710656 t).1
  have HQ : Hid (Rep.small q = true → -281474976710656 ≤ q ∧ q ≤ 281474976710656) := Lib.hid hq
  have HA : Hid (Rep.small a = true → -281474976710656 ≤ a ∧ a ≤ 281474976710656) := Lib.hid ha
  have HT : Hid (Rep.small t = true → -281474976710656 ≤ t ∧ t ≤ 281474976710656) := Lib.hid ht
  clear hq ha ht
  generalize Rep.okS ⟨s0, sb, sh, sr, sx, sy, st, sj⟩ = bo at *
  generalize Rep.small q = b1 at *
  generalize Rep.small a = b2 at *
  generalize Rep.small t = b3 at *
  have K0 := Lib.hid k0
  have K1 := Lib.hid k1
  have K2 := Lib.hid k2
  have K3 := Lib.hid k3
  have HBD := Lib.hid hbd
  clear k0 k1 k2 k3 hbd
  have fin : ∀ (w1 : World), Below ((w.alloc (.cells #[.bool s0, .int .i64 sb, .int .i64 sh, .int .i64 sr, .int .i64 sx, .int .i64 sy, .int .i64 st, .int .i64 sj] 23)).alloc (.cells #[.bool false, .int .i64 0, .int .i64 0, .int .i64 0, .int .i64 0, .int .i64 0, .int .i64 0, .int .i64 0] 23)).heap.size ((w.alloc (.cells #[.bool s0, .int .i64 sb, .int .i64 sh, .int .i64 sr, .int .i64 sx, .int .i64 sy, .int .i64 st, .int .i64 sj] 23)).alloc (.cells #[.bool false, .int .i64 0, .int .i64 0, .int .i64 0, .int .i64 0, .int .i64 0, .int .i64 0, .int .i64 0] 23)) w1 → Hid (Blk w1 w.heap.size 23 #[.bool s0, .int .i64 sb, .int .i64 sh, .int .i64 sr, .int .i64 sx, .int .i64 sy, .int .i64 st, .int .i64 sj]) ∧ Hid (Blk w1 (w.heap.size + 1) 23 #[.bool false, .int .i64 0, .int .i64 0, .int .i64 0, .int .i64 0, .int .i64 0, .int .i64 0, .int .i64 0]) ∧ Hid (Bel w w1) := fun w1 hb =>
    ⟨Lib.hid (((Blk.new w 23 #[.bool s0, .int .i64 sb, .int .i64 sh, .int .i64 sr, .int .i64 sx, .int .i64 sy, .int .i64 st, .int .i64 sj]).push _).later hb), Lib.hid ((Blk.new1 w _ 23 #[.bool false, .int .i64 0, .int .i64 0, .int .i64 0, .int .i64 0, .int .i64 0, .int .i64 0, .int .i64 0]).later hb), Lib.hid ((((Bel.refl w).push _).push _).later hb)⟩
  cases bo
  · rw [if_pos (by rfl)] at hR
    subst hR
    go_enter Try.func12, Try.ntmps12
    go_wp2_with fail
    refine (K0.out _).mono ?_
    rintro e w1 ⟨rfl, hb1⟩
    obtain ⟨B0, B1, U⟩ := fin w1 hb1
    clear hb1 fin
    have h10 : w.heap.size + 1 ≠ w.heap.size := by omega
    have h01 : w.heap.size ≠ w.heap.size + 1 := by omega
    have f0 := B0.out.at 0 _ rfl
    have f1 := B0.out.at 1 _ rfl
    have f2 := B0.out.at 2 _ rfl
    have f3 := B0.out.at 3 _ rfl
    have f4 := B0.out.at 4 _ rfl
    have f5 := B0.out.at 5 _ rfl
    have f6 := B0.out.at 6 _ rfl
    have f7 := B0.out.at 7 _ rfl
    have fz := B0.out.frozen
    have r0 := B1.out.at 0 _ rfl
    have r1 := B1.out.at 1 _ rfl
    have r2 := B1.out.at 2 _ rfl
    have r3 := B1.out.at 3 _ rfl
    have r4 := B1.out.at 4 _ rfl
    have r5 := B1.out.at 5 _ rfl
    have r6 := B1.out.at 6 _ rfl
    have r7 := B1.out.at 7 _ rfl
    have rz := B1.out.frozen
    go_wp2
    have BF : Blk (setRow (w.heap.size + 1) w1 0 [.bool false, .int .i64 0, .int .i64 0, .int .i64 0, .int .i64 0, .int .i64 0, .int .i64 0, .int .i64 0]) (w.heap.size + 1) 23 #[.bool false, .int .i64 0, .int .i64 0, .int .i64 0, .int .i64 0, .int .i64 0, .int .i64 0, .int .i64 0] := Blk.setRow B1.out [.bool false, .int .i64 0, .int .i64 0, .int .i64 0, .int .i64 0, .int .i64 0, .int .i64 0, .int .i64 0] rfl
    have UF : Below w.heap.size w (setRow (w.heap.size + 1) w1 0 [.bool false, .int .i64 0, .int .i64 0, .int .i64 0, .int .i64 0, .int .i64 0, .int .i64 0, .int .i64 0]) := below_setRow (by omega) [.bool false, .int .i64 0, .int .i64 0, .int .i64 0, .int .i64 0, .int .i64 0, .int .i64 0, .int .i64 0] _ 0 U.out
    simp only [setRow] at BF UF
    exact bodyPost_ret (v := .agg #[.bool false, .int .i64 0, .int .i64 0, .int .i64 0, .int .i64 0, .int .i64 0, .int .i64 0, .int .i64 0]) (res_c Try.results12 rfl (run_loadVar_row (P := Try.prog) _ _ _ _ _ _ _ BF Try.underlying23 rfl (by kernel_rfl))) rfl ⟨rfl, UF⟩
  · cases b1
    · rw [if_pos (by rfl)] at hR
      subst hR
      go_enter Try.func12, Try.ntmps12
      go_wp2_with fail
      refine (K0.out _).mono ?_
      rintro e w1 ⟨rfl, hb1⟩
      obtain ⟨B0, B1, U⟩ := fin w1 hb1
      clear hb1 fin
      have h10 : w.heap.size + 1 ≠ w.heap.size := by omega
      have h01 : w.heap.size ≠ w.heap.size + 1 := by omega
      have f0 := B0.out.at 0 _ rfl
      have f1 := B0.out.at 1 _ rfl
      have f2 := B0.out.at 2 _ rfl
      have f3 := B0.out.at 3 _ rfl
      have f4 := B0.out.at 4 _ rfl
      have f5 := B0.out.at 5 _ rfl
      have f6 := B0.out.at 6 _ rfl
      have f7 := B0.out.at 7 _ rfl
      have fz := B0.out.frozen
      have r0 := B1.out.at 0 _ rfl
      have r1 := B1.out.at 1 _ rfl
      have r2 := B1.out.at 2 _ rfl
      have r3 := B1.out.at 3 _ rfl
      have r4 := B1.out.at 4 _ rfl
      have r5 := B1.out.at 5 _ rfl
      have r6 := B1.out.at 6 _ rfl
      have r7 := B1.out.at 7 _ rfl
      have rz := B1.out.frozen
      go_wp2_with fail
      refine (K1.out _).mono ?_
      rintro e w1 ⟨rfl, rfl⟩
      go_wp2
      have BF : Blk (setRow (w.heap.size + 1) w1 0 [.bool false, .int .i64 0, .int .i64 0, .int .i64 0, .int .i64 0, .int .i64 0, .int .i64 0, .int .i64 0]) (w.heap.size + 1) 23 #[.bool false, .int .i64 0, .int .i64 0, .int .i64 0, .int .i64 0, .int .i64 0, .int .i64 0, .int .i64 0] := Blk.setRow B1.out [.bool false, .int .i64 0, .int .i64 0, .int .i64 0, .int .i64 0, .int .i64 0, .int .i64 0, .int .i64 0] rfl
      have UF : Below w.heap.size w (setRow (w.heap.size + 1) w1 0 [.bool false, .int .i64 0, .int .i64 0, .int .i64 0, .int .i64 0, .int .i64 0, .int .i64 0, .int .i64 0]) := below_setRow (by omega) [.bool false, .int .i64 0, .int .i64 0, .int .i64 0, .int .i64 0, .int .i64 0, .int .i64 0, .int .i64 0] _ 0 U.out
      simp only [setRow] at BF UF
      exact bodyPost_ret (v := .agg #[.bool false, .int .i64 0, .int .i64 0, .int .i64 0, .int .i64 0, .int .i64 0, .int .i64 0, .int .i64 0]) (res_c Try.results12 rfl (run_loadVar_row (P := Try.prog) _ _ _ _ _ _ _ BF Try.underlying23 rfl (by kernel_rfl))) rfl ⟨rfl, UF⟩
    · cases b2
      · rw [if_pos (by rfl)] at hR
        subst hR
        go_enter Try.func12, Try.ntmps12
        go_wp2_with fail
        refine (K0.out _).mono ?_
        rintro e w1 ⟨rfl, hb1⟩
        obtain ⟨B0, B1, U⟩ := fin w1 hb1
        clear hb1 fin
        have h10 : w.heap.size + 1 ≠ w.heap.size := by omega
        have h01 : w.heap.size ≠ w.heap.size + 1 := by omega
        have f0 := B0.out.at 0 _ rfl
        have f1 := B0.out.at 1 _ rfl
        have f2 := B0.out.at 2 _ rfl
        have f3 := B0.out.at 3 _ rfl
        have f4 := B0.out.at 4 _ rfl
        have f5 := B0.out.at 5 _ rfl
        have f6 := B0.out.at 6 _ rfl
        have f7 := B0.out.at 7 _ rfl
        have fz := B0.out.frozen
        have r0 := B1.out.at 0 _ rfl
        have r1 := B1.out.at 1 _ rfl
        have r2 := B1.out.at 2 _ rfl
        have r3 := B1.out.at 3 _ rfl
        have r4 := B1.out.at 4 _ rfl
        have r5 := B1.out.at 5 _ rfl
        have r6 := B1.out.at 6 _ rfl
        have r7 := B1.out.at 7 _ rfl
        have rz := B1.out.frozen
        go_wp2_with fail
        refine (K1.out _).mono ?_
        rintro e w1 ⟨rfl, rfl⟩
        go_wp2_with fail
        refine (K2.out _).mono ?_
        rintro e w1 ⟨rfl, rfl⟩
        go_wp2
        have BF : Blk (setRow (w.heap.size + 1) w1 0 [.bool false, .int .i64 0, .int .i64 0, .int .i64 0, .int .i64 0, .int .i64 0, .int .i64 0, .int .i64 0]) (w.heap.size + 1) 23 #[.bool false, .int .i64 0, .int .i64 0, .int .i64 0, .int .i64 0, .int .i64 0, .int .i64 0, .int .i64 0] := Blk.setRow B1.out [.bool false, .int .i64 0, .int .i64 0, .int .i64 0, .int .i64 0, .int .i64 0, .int .i64 0, .int .i64 0] rfl
        have UF : Below w.heap.size w (setRow (w.heap.size + 1) w1 0 [.bool false, .int .i64 0, .int .i64 0, .int .i64 0, .int .i64 0, .int .i64 0, .int .i64 0, .int .i64 0]) := below_setRow (by omega) [.bool false, .int .i64 0, .int .i64 0, .int .i64 0, .int .i64 0, .int .i64 0, .int .i64 0, .int .i64 0] _ 0 U.out
        simp only [setRow] at BF UF
        exact bodyPost_ret (v := .agg #[.bool false, .int .i64 0, .int .i64 0, .int .i64 0, .int .i64 0, .int .i64 0, .int .i64 0, .int .i64 0]) (res_c Try.results12 rfl (run_loadVar_row (P := Try.prog) _ _ _ _ _ _ _ BF Try.underlying23 rfl (by kernel_rfl))) rfl ⟨rfl, UF⟩
      · cases b3
        · rw [if_pos (by rfl)] at hR
          subst hR
          go_enter Try.func12, Try.ntmps12
          go_wp2_with fail
          refine (K0.out _).mono ?_
          rintro e w1 ⟨rfl, hb1⟩
          obtain ⟨B0, B1, U⟩ := fin w1 hb1
          clear hb1 fin
          have h10 : w.heap.size + 1 ≠ w.heap.size := by omega
          have h01 : w.heap.size ≠ w.heap.size + 1 := by omega
          have f0 := B0.out.at 0 _ rfl
          have f1 := B0.out.at 1 _ rfl
          have f2 := B0.out.at 2 _ rfl
          have f3 := B0.out.at 3 _ rfl
          have f4 := B0.out.at 4 _ rfl
          have f5 := B0.out.at 5 _ rfl
          have f6 := B0.out.at 6 _ rfl
          have f7 := B0.out.at 7 _ rfl
          have fz := B0.out.frozen
          have r0 := B1.out.at 0 _ rfl
          have r1 := B1.out.at 1 _ rfl
          have r2 := B1.out.at 2 _ rfl
          have r3 := B1.out.at 3 _ rfl
          have r4 := B1.out.at 4 _ rfl
          have r5 := B1.out.at 5 _ rfl
          have r6 := B1.out.at 6 _ rfl
          have r7 := B1.out.at 7 _ rfl
          have rz := B1.out.frozen
          go_wp2_with fail
          refine (K1.out _).mono ?_
          rintro e w1 ⟨rfl, rfl⟩
          go_wp2_with fail
          refine (K2.out _).mono ?_
          rintro e w1 ⟨rfl, rfl⟩
          go_wp2_with fail
          refine (K3.out _).mono ?_
          rintro e w1 ⟨rfl, rfl⟩
          go_wp2
          have BF : Blk (setRow (w.heap.size + 1) w1 0 [.bool false, .int .i64 0, .int .i64 0, .int .i64 0, .int .i64 0, .int .i64 0, .int .i64 0, .int .i64 0]) (w.heap.size + 1) 23 #[.bool false, .int .i64 0, .int .i64 0, .int .i64 0, .int .i64 0, .int .i64 0, .int .i64 0, .int .i64 0] := Blk.setRow B1.out [.bool false, .int .i64 0, .int .i64 0, .int .i64 0, .int .i64 0, .int .i64 0, .int .i64 0, .int .i64 0] rfl
          have UF : Below w.heap.size w (setRow (w.heap.size + 1) w1 0 [.bool false, .int .i64 0, .int .i64 0, .int .i64 0, .int .i64 0, .int .i64 0, .int .i64 0, .int .i64 0]) := below_setRow (by omega) [.bool false, .int .i64 0, .int .i64 0, .int .i64 0, .int .i64 0, .int .i64 0, .int .i64 0, .int .i64 0] _ 0 U.out
          simp only [setRow] at BF UF
          exact bodyPost_ret (v := .agg #[.bool false, .int .i64 0, .int .i64 0, .int .i64 0, .int .i64 0, .int .i64 0, .int .i64 0, .int .i64 0]) (res_c Try.results12 rfl (run_loadVar_row (P := Try.prog) _ _ _ _ _ _ _ BF Try.underlying23 rfl (by kernel_rfl))) rfl ⟨rfl, UF⟩
        · rw [if_neg (by simp)] at hR
          obtain ⟨c1, c2, c3, c4, c5, c6, c7, c8, c9, c10, c11, c12, c13, c14, c15⟩ := HBD.out rfl
          obtain ⟨q0, q1⟩ := HQ.out rfl
          obtain ⟨a0, a1⟩ := HA.out rfl
          obtain ⟨t0, t1⟩ := HT.out rfl
          cases s0
          · rw [if_pos rfl] at hR
            subst hR
            go_enter Try.func12, Try.ntmps12
            go_wp2_with fail
            refine (K0.out _).mono ?_
            rintro e w1 ⟨rfl, hb1⟩
            obtain ⟨B0, B1, U⟩ := fin w1 hb1
            clear hb1 fin
            have h10 : w.heap.size + 1 ≠ w.heap.size := by omega
            have h01 : w.heap.size ≠ w.heap.size + 1 := by omega
            have f0 := B0.out.at 0 _ rfl
            have f1 := B0.out.at 1 _ rfl
            have f2 := B0.out.at 2 _ rfl
            have f3 := B0.out.at 3 _ rfl
            have f4 := B0.out.at 4 _ rfl
            have f5 := B0.out.at 5 _ rfl
            have f6 := B0.out.at 6 _ rfl
            have f7 := B0.out.at 7 _ rfl
            have fz := B0.out.frozen
            have r0 := B1.out.at 0 _ rfl
            have r1 := B1.out.at 1 _ rfl
            have r2 := B1.out.at 2 _ rfl
            have r3 := B1.out.at 3 _ rfl
            have r4 := B1.out.at 4 _ rfl
            have r5 := B1.out.at 5 _ rfl
            have r6 := B1.out.at 6 _ rfl
            have r7 := B1.out.at 7 _ rfl
            have rz := B1.out.frozen
            go_wp2_with fail
            refine (K1.out _).mono ?_
            rintro e w1 ⟨rfl, rfl⟩
            go_wp2_with fail
            refine (K2.out _).mono ?_
            rintro e w1 ⟨rfl, rfl⟩
            go_wp2_with fail
            refine (K3.out _).mono ?_
            rintro e w1 ⟨rfl, rfl⟩
            go_wp2
            have BF : Blk (setRow (w.heap.size + 1) w1 0 [.bool true, .int .i64 q, .int .i64 q, .int .i64 1, .int .i64 0, .int .i64 0, .int .i64 (a - t), .int .i64 0]) (w.heap.size + 1) 23 #[.bool true, .int .i64 q, .int .i64 q, .int .i64 1, .int .i64 0, .int .i64 0, .int .i64 (a - t), .int .i64 0] := Blk.setRow B1.out [.bool true, .int .i64 q, .int .i64 q, .int .i64 1, .int .i64 0, .int .i64 0, .int .i64 (a - t), .int .i64 0] rfl
            have UF : Below w.heap.size w (setRow (w.heap.size + 1) w1 0 [.bool true, .int .i64 q, .int .i64 q, .int .i64 1, .int .i64 0, .int .i64 0, .int .i64 (a - t), .int .i64 0]) := below_setRow (by omega) [.bool true, .int .i64 q, .int .i64 q, .int .i64 1, .int .i64 0, .int .i64 0, .int .i64 (a - t), .int .i64 0] _ 0 U.out
            simp only [setRow] at BF UF
            exact bodyPost_ret (v := .agg #[.bool true, .int .i64 q, .int .i64 q, .int .i64 1, .int .i64 0, .int .i64 0, .int .i64 (a - t), .int .i64 0]) (res_c Try.results12 rfl (run_loadVar_row (P := Try.prog) _ _ _ _ _ _ _ BF Try.underlying23 rfl (by kernel_rfl))) rfl ⟨rfl, UF⟩
          · rw [if_neg (by simp)] at hR
            obtain ⟨u, hu⟩ : ∃ u, u = a - t - st := ⟨_, rfl⟩
            rw [← hu] at hR
            unfold Rep.absI at hR
            by_cases hneg : u < 0
            · rw [if_pos hneg, hu] at hR
              subst hR
              have hn1 : a - t - st < 0 := by omega
              clear hu hneg
              go_enter Try.func12, Try.ntmps12
              go_wp2_with fail
              refine (K0.out _).mono ?_
              rintro e w1 ⟨rfl, hb1⟩
              obtain ⟨B0, B1, U⟩ := fin w1 hb1
              clear hb1 fin
              have h10 : w.heap.size + 1 ≠ w.heap.size := by omega
              have h01 : w.heap.size ≠ w.heap.size + 1 := by omega
              have f0 := B0.out.at 0 _ rfl
              have f1 := B0.out.at 1 _ rfl
              have f2 := B0.out.at 2 _ rfl
              have f3 := B0.out.at 3 _ rfl
              have f4 := B0.out.at 4 _ rfl
              have f5 := B0.out.at 5 _ rfl
              have f6 := B0.out.at 6 _ rfl
              have f7 := B0.out.at 7 _ rfl
              have fz := B0.out.frozen
              have r0 := B1.out.at 0 _ rfl
              have r1 := B1.out.at 1 _ rfl
              have r2 := B1.out.at 2 _ rfl
              have r3 := B1.out.at 3 _ rfl
              have r4 := B1.out.at 4 _ rfl
              have r5 := B1.out.at 5 _ rfl
              have r6 := B1.out.at 6 _ rfl
              have r7 := B1.out.at 7 _ rfl
              have rz := B1.out.frozen
              go_wp2_with fail
              refine (K1.out _).mono ?_
              rintro e w1 ⟨rfl, rfl⟩
              go_wp2_with fail
              refine (K2.out _).mono ?_
              rintro e w1 ⟨rfl, rfl⟩
              go_wp2_with fail
              refine (K3.out _).mono ?_
              rintro e w1 ⟨rfl, rfl⟩
              go_wp2
              have BF : Blk (setRow (w.heap.size + 1) (((((w1.setCell ⟨w.heap.size, 1, none⟩ (.int .i64 (min sb q))).setCell ⟨w.heap.size, 2, none⟩ (.int .i64 (max sh q))).setCell ⟨w.heap.size, 3, none⟩ (.int .i64 (sr + 1))).setCell ⟨w.heap.size, 7, none⟩ (.int .i64 (sj + (-(a - t - st) - (sj + 8) / 16)))).setCell ⟨w.heap.size, 6, none⟩ (.int .i64 (a - t))) 0 [.bool true, .int .i64 (min sb q), .int .i64 (max sh q), .int .i64 (sr + 1), .int .i64 sx, .int .i64 sy, .int .i64 (a - t), .int .i64 (sj + (-(a - t - st) - (sj + 8) / 16))]) (w.heap.size + 1) 23 #[.bool true, .int .i64 (min sb q), .int .i64 (max sh q), .int .i64 (sr + 1), .int .i64 sx, .int .i64 sy, .int .i64 (a - t), .int .i64 (sj + (-(a - t - st) - (sj + 8) / 16))] := Blk.setRow (((((B1.out.far h10 (.int .i64 (min sb q))).far h10 (.int .i64 (max sh q))).far h10 (.int .i64 (sr + 1))).far h10 (.int .i64 (sj + (-(a - t - st) - (sj + 8) / 16)))).far h10 (.int .i64 (a - t))) [.bool true, .int .i64 (min sb q), .int .i64 (max sh q), .int .i64 (sr + 1), .int .i64 sx, .int .i64 sy, .int .i64 (a - t), .int .i64 (sj + (-(a - t - st) - (sj + 8) / 16))] rfl
              have UF : Below w.heap.size w (setRow (w.heap.size + 1) (((((w1.setCell ⟨w.heap.size, 1, none⟩ (.int .i64 (min sb q))).setCell ⟨w.heap.size, 2, none⟩ (.int .i64 (max sh q))).setCell ⟨w.heap.size, 3, none⟩ (.int .i64 (sr + 1))).setCell ⟨w.heap.size, 7, none⟩ (.int .i64 (sj + (-(a - t - st) - (sj + 8) / 16)))).setCell ⟨w.heap.size, 6, none⟩ (.int .i64 (a - t))) 0 [.bool true, .int .i64 (min sb q), .int .i64 (max sh q), .int .i64 (sr + 1), .int .i64 sx, .int .i64 sy, .int .i64 (a - t), .int .i64 (sj + (-(a - t - st) - (sj + 8) / 16))]) := below_setRow (by omega) [.bool true, .int .i64 (min sb q), .int .i64 (max sh q), .int .i64 (sr + 1), .int .i64 sx, .int .i64 sy, .int .i64 (a - t), .int .i64 (sj + (-(a - t - st) - (sj + 8) / 16))] _ 0 (Below.setCell (Below.setCell (Below.setCell (Below.setCell (Below.setCell U.out (by exact Nat.le_refl _) (.int .i64 (min sb q))) (by exact Nat.le_refl _) (.int .i64 (max sh q))) (by exact Nat.le_refl _) (.int .i64 (sr + 1))) (by exact Nat.le_refl _) (.int .i64 (sj + (-(a - t - st) - (sj + 8) / 16)))) (by exact Nat.le_refl _) (.int .i64 (a - t)))
              simp only [setRow] at BF UF
              exact bodyPost_ret (v := .agg #[.bool true, .int .i64 (min sb q), .int .i64 (max sh q), .int .i64 (sr + 1), .int .i64 sx, .int .i64 sy, .int .i64 (a - t), .int .i64 (sj + (-(a - t - st) - (sj + 8) / 16))]) (res_c Try.results12 rfl (run_loadVar_row (P := Try.prog) _ _ _ _ _ _ _ BF Try.underlying23 rfl (by kernel_rfl))) rfl ⟨rfl, UF⟩
            · rw [if_neg hneg, hu] at hR
              subst hR
              have hn1 : 0 ≤ a - t - st := by omega
              clear hu hneg
              go_enter Try.func12, Try.ntmps12
              go_wp2_with fail
              refine (K0.out _).mono ?_
              rintro e w1 ⟨rfl, hb1⟩
              obtain ⟨B0, B1, U⟩ := fin w1 hb1
              clear hb1 fin
              have h10 : w.heap.size + 1 ≠ w.heap.size := by omega
              have h01 : w.heap.size ≠ w.heap.size + 1 := by omega
              have f0 := B0.out.at 0 _ rfl
              have f1 := B0.out.at 1 _ rfl
              have f2 := B0.out.at 2 _ rfl
              have f3 := B0.out.at 3 _ rfl
              have f4 := B0.out.at 4 _ rfl
              have f5 := B0.out.at 5 _ rfl
              have f6 := B0.out.at 6 _ rfl
              have f7 := B0.out.at 7 _ rfl
              have fz := B0.out.frozen
              have r0 := B1.out.at 0 _ rfl
              have r1 := B1.out.at 1 _ rfl
              have r2 := B1.out.at 2 _ rfl
              have r3 := B1.out.at 3 _ rfl
              have r4 := B1.out.at 4 _ rfl
              have r5 := B1.out.at 5 _ rfl
              have r6 := B1.out.at 6 _ rfl
              have r7 := B1.out.at 7 _ rfl
              have rz := B1.out.frozen
              go_wp2_with fail
              refine (K1.out _).mono ?_
              rintro e w1 ⟨rfl, rfl⟩
              go_wp2_with fail
              refine (K2.out _).mono ?_
              rintro e w1 ⟨rfl, rfl⟩
              go_wp2_with fail
              refine (K3.out _).mono ?_
              rintro e w1 ⟨rfl, rfl⟩
              go_wp2
              have BF : Blk (setRow (w.heap.size + 1) (((((w1.setCell ⟨w.heap.size, 1, none⟩ (.int .i64 (min sb q))).setCell ⟨w.heap.size, 2, none⟩ (.int .i64 (max sh q))).setCell ⟨w.heap.size, 3, none⟩ (.int .i64 (sr + 1))).setCell ⟨w.heap.size, 7, none⟩ (.int .i64 (sj + ((a - t - st) - (sj + 8) / 16)))).setCell ⟨w.heap.size, 6, none⟩ (.int .i64 (a - t))) 0 [.bool true, .int .i64 (min sb q), .int .i64 (max sh q), .int .i64 (sr + 1), .int .i64 sx, .int .i64 sy, .int .i64 (a - t), .int .i64 (sj + ((a - t - st) - (sj + 8) / 16))]) (w.heap.size + 1) 23 #[.bool true, .int .i64 (min sb q), .int .i64 (max sh q), .int .i64 (sr + 1), .int .i64 sx, .int .i64 sy, .int .i64 (a - t), .int .i64 (sj + ((a - t - st) - (sj + 8) / 16))] := Blk.setRow (((((B1.out.far h10 (.int .i64 (min sb q))).far h10 (.int .i64 (max sh q))).far h10 (.int .i64 (sr + 1))).far h10 (.int .i64 (sj + ((a - t - st) - (sj + 8) / 16)))).far h10 (.int .i64 (a - t))) [.bool true, .int .i64 (min sb q), .int .i64 (max sh q), .int .i64 (sr + 1), .int .i64 sx, .int .i64 sy, .int .i64 (a - t), .int .i64 (sj + ((a - t - st) - (sj + 8) / 16))] rfl
              have UF : Below w.heap.size w (setRow (w.heap.size + 1) (((((w1.setCell ⟨w.heap.size, 1, none⟩ (.int .i64 (min sb q))).setCell ⟨w.heap.size, 2, none⟩ (.int .i64 (max sh q))).setCell ⟨w.heap.size, 3, none⟩ (.int .i64 (sr + 1))).setCell ⟨w.heap.size, 7, none⟩ (.int .i64 (sj + ((a - t - st) - (sj + 8) / 16)))).setCell ⟨w.heap.size, 6, none⟩ (.int .i64 (a - t))) 0 [.bool true, .int .i64 (min sb q), .int .i64 (max sh q), .int .i64 (sr + 1), .int .i64 sx, .int .i64 sy, .int .i64 (a - t), .int .i64 (sj + ((a - t - st) - (sj + 8) / 16))]) := below_setRow (by omega) [.bool true, .int .i64 (min sb q), .int .i64 (max sh q), .int .i64 (sr + 1), .int .i64 sx, .int .i64 sy, .int .i64 (a - t), .int .i64 (sj + ((a - t - st) - (sj + 8) / 16))] _ 0 (Below.setCell (Below.setCell (Below.setCell (Below.setCell (Below.setCell U.out (by exact Nat.le_refl _) (.int .i64 (min sb q))) (by exact Nat.le_refl _) (.int .i64 (max sh q))) (by exact Nat.le_refl _) (.int .i64 (sr + 1))) (by exact Nat.le_refl _) (.int .i64 (sj + ((a - t - st) - (sj + 8) / 16)))) (by exact Nat.le_refl _) (.int .i64 (a - t)))
              simp only [setRow] at BF UF
              exact bodyPost_ret (v := .agg #[.bool true, .int .i64 (min sb q), .int .i64 (max sh q), .int .i64 (sr + 1), .int .i64 sx, .int .i64 sy, .int .i64 (a - t), .int .i64 (sj + ((a - t - st) - (sj + 8) / 16))]) (res_c Try.results12 rfl (run_loadVar_row (P := Try.prog) _ _ _ _ _ _ _ BF Try.underlying23 rfl (by kernel_rfl))) rfl ⟨rfl, UF⟩
set_option maxHeartbeats 3200000 in
theorem rArrive_any : Calls Try.prog 13 #[.agg #[.bool s0, .int .i64 sb, .int .i64 sh, .int .i64 sr, .int .i64 sx, .int .i64 sy, .int .i64 st, .int .i64 sj], .int .i64 q, .int .i64 a, .int .i64 t] w fun e w' => e = .returned (.agg (Rep.arrive ⟨s0, sb, sh, sr, sx, sy, st, sj⟩ q a t).row) ∧ Below w.heap.size w w' := by
  obtain ⟨R, hR⟩ : ∃ R, R = Rep.arrive ⟨s0, sb, sh, sr, sx, sy, st, sj⟩ q a t := ⟨_, rfl⟩
  rw [← hR]
  unfold Rep.arrive at hR
  have k0 := fun W => rValid_any s0 sb sh sr sx sy st sj W
  have k1 := fun W => within_any q 281474976710656 W (by omega) (by omega)
  have k2 := fun W => within_any a 281474976710656 W (by omega) (by omega)
  have k3 := fun W => within_any t 281474976710656 W (by omega) (by omega)
  have hbd := Rep.okS_bd s0 sb sh sr sx sy st sj
  rw [show Rep.inB (-281474976710656) 281474976710656 q = Rep.small q from rfl] at k1
  rw [show Rep.inB (-281474976710656) 281474976710656 a = Rep.small a from rfl] at k2
  rw [show Rep.inB (-281474976710656) 281474976710656 t = Rep.small t from rfl] at k3
  have hq := (Rep.inB_iff (-281474976710656) 281474976710656 q).1
  have ha := (Rep.inB_iff (-281474976710656) 281474976710656 a).1
  have ht := (Rep.inB_iff (-281474976710656) 281474976710656 t).1
  have HQ : Hid (Rep.small q = true → -281474976710656 ≤ q ∧ q ≤ 281474976710656) := Lib.hid hq
  have HA : Hid (Rep.small a = true → -281474976710656 ≤ a ∧ a ≤ 281474976710656) := Lib.hid ha
  have HT : Hid (Rep.small t = true → -281474976710656 ≤ t ∧ t ≤ 281474976710656) := Lib.hid ht
  clear hq ha ht
  generalize Rep.okS ⟨s0, sb, sh, sr, sx, sy, st, sj⟩ = bo at *
  generalize Rep.small q = b1 at *
  generalize Rep.small a = b2 at *
  generalize Rep.small t = b3 at *
  have K0 := Lib.hid k0
  have K1 := Lib.hid k1
  have K2 := Lib.hid k2
  have K3 := Lib.hid k3
  have HBD := Lib.hid hbd
  clear k0 k1 k2 k3 hbd
  have fin : ∀ (w1 : World), Below ((w.alloc (.cells #[.bool s0, .int .i64 sb, .int .i64 sh, .int .i64 sr, .int .i64 sx, .int .i64 sy, .int .i64 st, .int .i64 sj] 23)).alloc (.cells #[.bool false, .int .i64 0, .int .i64 0, .int .i64 0, .int .i64 0, .int .i64 0, .int .i64 0, .int .i64 0] 23)).heap.size ((w.alloc (.cells #[.bool s0, .int .i64 sb, .int .i64 sh, .int .i64 sr, .int .i64 sx, .int .i64 sy, .int .i64 st, .int .i64 sj] 23)).alloc (.cells #[.bool false, .int .i64 0, .int .i64 0, .int .i64 0, .int .i64 0, .int .i64 0, .int .i64 0, .int .i64 0] 23)) w1 → Hid (Blk w1 w.heap.size 23 #[.bool s0, .int .i64 sb, .int .i64 sh, .int .i64 sr, .int .i64 sx, .int .i64 sy, .int .i64 st, .int .i64 sj]) ∧ Hid (Blk w1 (w.heap.size + 1) 23 #[.bool false, .int .i64 0, .int .i64 0, .int .i64 0, .int .i64 0, .int .i64 0, .int .i64 0, .int .i64 0]) ∧ Hid (Bel w w1) := fun w1 hb =>
    ⟨Lib.hid (((Blk.new w 23 #[.bool s0, .int .i64 sb, .int .i64 sh, .int .i64 sr, .int .i64 sx, .int .i64 sy, .int .i64 st, .int .i64 sj]).push _).later hb), Lib.hid ((Blk.new1 w _ 23 #[.bool false, .int .i64 0, .int .i64 0, .int .i64 0, .int .i64 0, .int .i64 0, .int .i64 0, .int .i64 0]).later hb), Lib.hid ((((Bel.refl w).push _).push _).later hb)⟩
  cases bo
  · rw [if_pos (by rfl)] at hR
    subst hR
    go_enter Try.func13, Try.ntmps13
    go_wp2_with fail
    refine (K0.out _).mono ?_
    rintro e w1 ⟨rfl, hb1⟩
    obtain ⟨B0, B1, U⟩ := fin w1 hb1
    clear hb1 fin
    have h10 : w.heap.size + 1 ≠ w.heap.size := by omega
    have h01 : w.heap.size ≠ w.heap.size + 1 := by omega
    have f0 := B0.out.at 0 _ rfl
    have f1 := B0.out.at 1 _ rfl
    have f2 := B0.out.at 2 _ rfl
    have f3 := B0.out.at 3 _ rfl
    have f4 := B0.out.at 4 _ rfl
    have f5 := B0.out.at 5 _ rfl
    have f6 := B0.out.at 6 _ rfl
    have f7 := B0.out.at 7 _ rfl
    have fz := B0.out.frozen
    have r0 := B1.out.at 0 _ rfl
    have r1 := B1.out.at 1 _ rfl
    have r2 := B1.out.at 2 _ rfl
    have r3 := B1.out.at 3 _ rfl
    have r4 := B1.out.at 4 _ rfl
    have r5 := B1.out.at 5 _ rfl
    have r6 := B1.out.at 6 _ rfl
    have r7 := B1.out.at 7 _ rfl
    have rz := B1.out.frozen
    go_wp2
    have BF : Blk (setRow (w.heap.size + 1) w1 0 [.bool false, .int .i64 0, .int .i64 0, .int .i64 0, .int .i64 0, .int .i64 0, .int .i64 0, .int .i64 0]) (w.heap.size + 1) 23 #[.bool false, .int .i64 0, .int .i64 0, .int .i64 0, .int .i64 0, .int .i64 0, .int .i64 0, .int .i64 0] := Blk.setRow B1.out [.bool false, .int .i64 0, .int .i64 0, .int .i64 0, .int .i64 0, .int .i64 0, .int .i64 0, .int .i64 0] rfl
    have UF : Below w.heap.size w (setRow (w.heap.size + 1) w1 0 [.bool false, .int .i64 0, .int .i64 0, .int .i64 0, .int .i64 0, .int .i64 0, .int .i64 0, .int .i64 0]) := below_setRow (by omega) [.bool false, .int .i64 0, .int .i64 0, .int .i64 0, .int .i64 0, .int .i64 0, .int .i64 0, .int .i64 0] _ 0 U.out
    simp only [setRow] at BF UF
    exact bodyPost_ret (v := .agg #[.bool false, .int .i64 0, .int .i64 0, .int .i64 0, .int .i64 0, .int .i64 0, .int .i64 0, .int .i64 0]) (res_c Try.results13 rfl (run_loadVar_row (P := Try.prog) _ _ _ _ _ _ _ BF Try.underlying23 rfl (by kernel_rfl))) rfl ⟨rfl, UF⟩
  · cases b1
    · rw [if_pos (by rfl)] at hR
      subst hR
      go_enter Try.func13, Try.ntmps13
      go_wp2_with fail
      refine (K0.out _).mono ?_
      rintro e w1 ⟨rfl, hb1⟩
      obtain ⟨B0, B1, U⟩ := fin w1 hb1
      clear hb1 fin
      have h10 : w.heap.size + 1 ≠ w.heap.size := by omega
      have h01 : w.heap.size ≠ w.heap.size + 1 := by omega
      have f0 := B0.out.at 0 _ rfl
      have f1 := B0.out.at 1 _ rfl
      have f2 := B0.out.at 2 _ rfl
      have f3 := B0.out.at 3 _ rfl
      have f4 := B0.out.at 4 _ rfl
      have f5 := B0.out.at 5 _ rfl
      have f6 := B0.out.at 6 _ rfl
      have f7 := B0.out.at 7 _ rfl
      have fz := B0.out.frozen
      have r0 := B1.out.at 0 _ rfl
      have r1 := B1.out.at 1 _ rfl
      have r2 := B1.out.at 2 _ rfl
      have r3 := B1.out.at 3 _ rfl
      have r4 := B1.out.at 4 _ rfl
      have r5 := B1.out.at 5 _ rfl
      have r6 := B1.out.at 6 _ rfl
      have r7 := B1.out.at 7 _ rfl
      have rz := B1.out.frozen
      go_wp2_with fail
      refine (K1.out _).mono ?_
      rintro e w1 ⟨rfl, rfl⟩
      go_wp2
      have BF : Blk (setRow (w.heap.size + 1) w1 0 [.bool false, .int .i64 0, .int .i64 0, .int .i64 0, .int .i64 0, .int .i64 0, .int .i64 0, .int .i64 0]) (w.heap.size + 1) 23 #[.bool false, .int .i64 0, .int .i64 0, .int .i64 0, .int .i64 0, .int .i64 0, .int .i64 0, .int .i64 0] := Blk.setRow B1.out [.bool false, .int .i64 0, .int .i64 0, .int .i64 0, .int .i64 0, .int .i64 0, .int .i64 0, .int .i64 0] rfl
      have UF : Below w.heap.size w (setRow (w.heap.size + 1) w1 0 [.bool false, .int .i64 0, .int .i64 0, .int .i64 0, .int .i64 0, .int .i64 0, .int .i64 0, .int .i64 0]) := below_setRow (by omega) [.bool false, .int .i64 0, .int .i64 0, .int .i64 0, .int .i64 0, .int .i64 0, .int .i64 0, .int .i64 0] _ 0 U.out
      simp only [setRow] at BF UF
      exact bodyPost_ret (v := .agg #[.bool false, .int .i64 0, .int .i64 0, .int .i64 0, .int .i64 0, .int .i64 0, .int .i64 0, .int .i64 0]) (res_c Try.results13 rfl (run_loadVar_row (P := Try.prog) _ _ _ _ _ _ _ BF Try.underlying23 rfl (by kernel_rfl))) rfl ⟨rfl, UF⟩
    · cases b2
      · rw [if_pos (by rfl)] at hR
        subst hR
        go_enter Try.func13, Try.ntmps13
        go_wp2_with fail
        refine (K0.out _).mono ?_
        rintro e w1 ⟨rfl, hb1⟩
        obtain ⟨B0, B1, U⟩ := fin w1 hb1
        clear hb1 fin
        have h10 : w.heap.size + 1 ≠ w.heap.size := by omega
        have h01 : w.heap.size ≠ w.heap.size + 1 := by omega
        have f0 := B0.out.at 0 _ rfl
        have f1 := B0.out.at 1 _ rfl
        have f2 := B0.out.at 2 _ rfl
        have f3 := B0.out.at 3 _ rfl
        have f4 := B0.out.at 4 _ rfl
        have f5 := B0.out.at 5 _ rfl
        have f6 := B0.out.at 6 _ rfl
        have f7 := B0.out.at 7 _ rfl
        have fz := B0.out.frozen
        have r0 := B1.out.at 0 _ rfl
        have r1 := B1.out.at 1 _ rfl
        have r2 := B1.out.at 2 _ rfl
        have r3 := B1.out.at 3 _ rfl
        have r4 := B1.out.at 4 _ rfl
        have r5 := B1.out.at 5 _ rfl
        have r6 := B1.out.at 6 _ rfl
        have r7 := B1.out.at 7 _ rfl
        have rz := B1.out.frozen
        go_wp2_with fail
        refine (K1.out _).mono ?_
        rintro e w1 ⟨rfl, rfl⟩
        go_wp2_with fail
        refine (K2.out _).mono ?_
        rintro e w1 ⟨rfl, rfl⟩
        go_wp2
        have BF : Blk (setRow (w.heap.size + 1) w1 0 [.bool false, .int .i64 0, .int .i64 0, .int .i64 0, .int .i64 0, .int .i64 0, .int .i64 0, .int .i64 0]) (w.heap.size + 1) 23 #[.bool false, .int .i64 0, .int .i64 0, .int .i64 0, .int .i64 0, .int .i64 0, .int .i64 0, .int .i64 0] := Blk.setRow B1.out [.bool false, .int .i64 0, .int .i64 0, .int .i64 0, .int .i64 0, .int .i64 0, .int .i64 0, .int .i64 0] rfl
        have UF : Below w.heap.size w (setRow (w.heap.size + 1) w1 0 [.bool false, .int .i64 0, .int .i64 0, .int .i64 0, .int .i64 0, .int .i64 0, .int .i64 0, .int .i64 0]) := below_setRow (by omega) [.bool false, .int .i64 0, .int .i64 0, .int .i64 0, .int .i64 0, .int .i64 0, .int .i64 0, .int .i64 0] _ 0 U.out
        simp only [setRow] at BF UF
        exact bodyPost_ret (v := .agg #[.bool false, .int .i64 0, .int .i64 0, .int .i64 0, .int .i64 0, .int .i64 0, .int .i64 0, .int .i64 0]) (res_c Try.results13 rfl (run_loadVar_row (P := Try.prog) _ _ _ _ _ _ _ BF Try.underlying23 rfl (by kernel_rfl))) rfl ⟨rfl, UF⟩
      · cases b3
        · rw [if_pos (by rfl)] at hR
          subst hR
          go_enter Try.func13, Try.ntmps13
          go_wp2_with fail
          refine (K0.out _).mono ?_
          rintro e w1 ⟨rfl, hb1⟩
          obtain ⟨B0, B1, U⟩ := fin w1 hb1
          clear hb1 fin
          have h10 : w.heap.size + 1 ≠ w.heap.size := by omega
          have h01 : w.heap.size ≠ w.heap.size + 1 := by omega
          have f0 := B0.out.at 0 _ rfl
          have f1 := B0.out.at 1 _ rfl
          have f2 := B0.out.at 2 _ rfl
          have f3 := B0.out.at 3 _ rfl
          have f4 := B0.out.at 4 _ rfl
          have f5 := B0.out.at 5 _ rfl
          have f6 := B0.out.at 6 _ rfl
          have f7 := B0.out.at 7 _ rfl
          have fz := B0.out.frozen
          have r0 := B1.out.at 0 _ rfl
          have r1 := B1.out.at 1 _ rfl
          have r2 := B1.out.at 2 _ rfl
          have r3 := B1.out.at 3 _ rfl
          have r4 := B1.out.at 4 _ rfl
          have r5 := B1.out.at 5 _ rfl
          have r6 := B1.out.at 6 _ rfl
          have r7 := B1.out.at 7 _ rfl
          have rz := B1.out.frozen
          go_wp2_with fail
          refine (K1.out _).mono ?_
          rintro e w1 ⟨rfl, rfl⟩
          go_wp2_with fail
          refine (K2.out _).mono ?_
          rintro e w1 ⟨rfl, rfl⟩
          go_wp2_with fail
          refine (K3.out _).mono ?_
          rintro e w1 ⟨rfl, rfl⟩
          go_wp2
          have BF : Blk (setRow (w.heap.size + 1) w1 0 [.bool false, .int .i64 0, .int .i64 0, .int .i64 0, .int .i64 0, .int .i64 0, .int .i64 0, .int .i64 0]) (w.heap.size + 1) 23 #[.bool false, .int .i64 0, .int .i64 0, .int .i64 0, .int .i64 0, .int .i64 0, .int .i64 0, .int .i64 0] := Blk.setRow B1.out [.bool false, .int .i64 0, .int .i64 0, .int .i64 0, .int .i64 0, .int .i64 0, .int .i64 0, .int .i64 0] rfl
          have UF : Below w.heap.size w (setRow (w.heap.size + 1) w1 0 [.bool false, .int .i64 0, .int .i64 0, .int .i64 0, .int .i64 0, .int .i64 0, .int .i64 0, .int .i64 0]) := below_setRow (by omega) [.bool false, .int .i64 0, .int .i64 0, .int .i64 0, .int .i64 0, .int .i64 0, .int .i64 0, .int .i64 0] _ 0 U.out
          simp only [setRow] at BF UF
          exact bodyPost_ret (v := .agg #[.bool false, .int .i64 0, .int .i64 0, .int .i64 0, .int .i64 0, .int .i64 0, .int .i64 0, .int .i64 0]) (res_c Try.results13 rfl (run_loadVar_row (P := Try.prog) _ _ _ _ _ _ _ BF Try.underlying23 rfl (by kernel_rfl))) rfl ⟨rfl, UF⟩
        · rw [if_neg (by simp)] at hR
          obtain ⟨c1, c2, c3, c4, c5, c6, c7, c8, c9, c10, c11, c12, c13, c14, c15⟩ := HBD.out rfl
          obtain ⟨q0, q1⟩ := HQ.out rfl
          obtain ⟨a0, a1⟩ := HA.out rfl
          obtain ⟨t0, t1⟩ := HT.out rfl
          cases s0
          · rw [if_pos rfl] at hR
            subst hR
            go_enter Try.func13, Try.ntmps13
            go_wp2_with fail
            refine (K0.out _).mono ?_
            rintro e w1 ⟨rfl, hb1⟩
            obtain ⟨B0, B1, U⟩ := fin w1 hb1
            clear hb1 fin
            have h10 : w.heap.size + 1 ≠ w.heap.size := by omega
            have h01 : w.heap.size ≠ w.heap.size + 1 := by omega
            have f0 := B0.out.at 0 _ rfl
            have f1 := B0.out.at 1 _ rfl
            have f2 := B0.out.at 2 _ rfl
            have f3 := B0.out.at 3 _ rfl
            have f4 := B0.out.at 4 _ rfl
            have f5 := B0.out.at 5 _ rfl
            have f6 := B0.out.at 6 _ rfl
            have f7 := B0.out.at 7 _ rfl
            have fz := B0.out.frozen
            have r0 := B1.out.at 0 _ rfl
            have r1 := B1.out.at 1 _ rfl
            have r2 := B1.out.at 2 _ rfl
            have r3 := B1.out.at 3 _ rfl
            have r4 := B1.out.at 4 _ rfl
            have r5 := B1.out.at 5 _ rfl
            have r6 := B1.out.at 6 _ rfl
            have r7 := B1.out.at 7 _ rfl
            have rz := B1.out.frozen
            go_wp2_with fail
            refine (K1.out _).mono ?_
            rintro e w1 ⟨rfl, rfl⟩
            go_wp2_with fail
            refine (K2.out _).mono ?_
            rintro e w1 ⟨rfl, rfl⟩
            go_wp2_with fail
            refine (K3.out _).mono ?_
            rintro e w1 ⟨rfl, rfl⟩
            go_wp2
            have BF : Blk (setRow (w.heap.size + 1) w1 0 [.bool true, .int .i64 q, .int .i64 q, .int .i64 1, .int .i64 0, .int .i64 0, .int .i64 (a - t), .int .i64 0]) (w.heap.size + 1) 23 #[.bool true, .int .i64 q, .int .i64 q, .int .i64 1, .int .i64 0, .int .i64 0, .int .i64 (a - t), .int .i64 0] := Blk.setRow B1.out [.bool true, .int .i64 q, .int .i64 q, .int .i64 1, .int .i64 0, .int .i64 0, .int .i64 (a - t), .int .i64 0] rfl
            have UF : Below w.heap.size w (setRow (w.heap.size + 1) w1 0 [.bool true, .int .i64 q, .int .i64 q, .int .i64 1, .int .i64 0, .int .i64 0, .int .i64 (a - t), .int .i64 0]) := below_setRow (by omega) [.bool true, .int .i64 q, .int .i64 q, .int .i64 1, .int .i64 0, .int .i64 0, .int .i64 (a - t), .int .i64 0] _ 0 U.out
            simp only [setRow] at BF UF
            exact bodyPost_ret (v := .agg #[.bool true, .int .i64 q, .int .i64 q, .int .i64 1, .int .i64 0, .int .i64 0, .int .i64 (a - t), .int .i64 0]) (res_c Try.results13 rfl (run_loadVar_row (P := Try.prog) _ _ _ _ _ _ _ BF Try.underlying23 rfl (by kernel_rfl))) rfl ⟨rfl, UF⟩
          · rw [if_neg (by simp)] at hR
            obtain ⟨u, hu⟩ : ∃ u, u = a - t - st := ⟨_, rfl⟩
            rw [← hu] at hR
            unfold Rep.absI at hR
            have hd : max (a - t - st) (st - (a - t)) = if u < 0 then -u else u := by rw [hu]; split <;> omega
            rw [← hd] at hR
            clear hd hu
            by_cases h1 : q < sb
            · rw [show min sb q = q by omega] at hR
              by_cases h2 : sh < q
              · exfalso; omega
              · rw [show max sh q = sh by omega, ← Int.add_sub_assoc] at hR
                subst hR
                have h2' : q ≤ sh := by omega
                go_enter Try.func13, Try.ntmps13
                go_wp2_with fail
                refine (K0.out _).mono ?_
                rintro e w1 ⟨rfl, hb1⟩
                obtain ⟨B0, B1, U⟩ := fin w1 hb1
                clear hb1 fin
                have h10 : w.heap.size + 1 ≠ w.heap.size := by omega
                have h01 : w.heap.size ≠ w.heap.size + 1 := by omega
                have f0 := B0.out.at 0 _ rfl
                have f1 := B0.out.at 1 _ rfl
                have f2 := B0.out.at 2 _ rfl
                have f3 := B0.out.at 3 _ rfl
                have f4 := B0.out.at 4 _ rfl
                have f5 := B0.out.at 5 _ rfl
                have f6 := B0.out.at 6 _ rfl
                have f7 := B0.out.at 7 _ rfl
                have fz := B0.out.frozen
                have r0 := B1.out.at 0 _ rfl
                have r1 := B1.out.at 1 _ rfl
                have r2 := B1.out.at 2 _ rfl
                have r3 := B1.out.at 3 _ rfl
                have r4 := B1.out.at 4 _ rfl
                have r5 := B1.out.at 5 _ rfl
                have r6 := B1.out.at 6 _ rfl
                have r7 := B1.out.at 7 _ rfl
                have rz := B1.out.frozen
                go_wp2_with fail
                refine (K1.out _).mono ?_
                rintro e w1 ⟨rfl, rfl⟩
                go_wp2_with fail
                refine (K2.out _).mono ?_
                rintro e w1 ⟨rfl, rfl⟩
                go_wp2_with fail
                refine (K3.out _).mono ?_
                rintro e w1 ⟨rfl, rfl⟩
                go_wp2
                have BF : Blk (setRow (w.heap.size + 1) ((((w1.setCell ⟨w.heap.size, 1, none⟩ (.int .i64 q)).setCell ⟨w.heap.size, 3, none⟩ (.int .i64 (sr + 1))).setCell ⟨w.heap.size, 7, none⟩ (.int .i64 (sj + max (a - t - st) (st - (a - t)) - (sj + 8) / 16))).setCell ⟨w.heap.size, 6, none⟩ (.int .i64 (a - t))) 0 [.bool true, .int .i64 q, .int .i64 sh, .int .i64 (sr + 1), .int .i64 sx, .int .i64 sy, .int .i64 (a - t), .int .i64 (sj + max (a - t - st) (st - (a - t)) - (sj + 8) / 16)]) (w.heap.size + 1) 23 #[.bool true, .int .i64 q, .int .i64 sh, .int .i64 (sr + 1), .int .i64 sx, .int .i64 sy, .int .i64 (a - t), .int .i64 (sj + max (a - t - st) (st - (a - t)) - (sj + 8) / 16)] := Blk.setRow ((((B1.out.far h10 (.int .i64 q)).far h10 (.int .i64 (sr + 1))).far h10 (.int .i64 (sj + max (a - t - st) (st - (a - t)) - (sj + 8) / 16))).far h10 (.int .i64 (a - t))) [.bool true, .int .i64 q, .int .i64 sh, .int .i64 (sr + 1), .int .i64 sx, .int .i64 sy, .int .i64 (a - t), .int .i64 (sj + max (a - t - st) (st - (a - t)) - (sj + 8) / 16)] rfl
                have UF : Below w.heap.size w (setRow (w.heap.size + 1) ((((w1.setCell ⟨w.heap.size, 1, none⟩ (.int .i64 q)).setCell ⟨w.heap.size, 3, none⟩ (.int .i64 (sr + 1))).setCell ⟨w.heap.size, 7, none⟩ (.int .i64 (sj + max (a - t - st) (st - (a - t)) - (sj + 8) / 16))).setCell ⟨w.heap.size, 6, none⟩ (.int .i64 (a - t))) 0 [.bool true, .int .i64 q, .int .i64 sh, .int .i64 (sr + 1), .int .i64 sx, .int .i64 sy, .int .i64 (a - t), .int .i64 (sj + max (a - t - st) (st - (a - t)) - (sj + 8) / 16)]) := below_setRow (by omega) [.bool true, .int .i64 q, .int .i64 sh, .int .i64 (sr + 1), .int .i64 sx, .int .i64 sy, .int .i64 (a - t), .int .i64 (sj + max (a - t - st) (st - (a - t)) - (sj + 8) / 16)] _ 0 (Below.setCell (Below.setCell (Below.setCell (Below.setCell U.out (by exact Nat.le_refl _) (.int .i64 q)) (by exact Nat.le_refl _) (.int .i64 (sr + 1))) (by exact Nat.le_refl _) (.int .i64 (sj + max (a - t - st) (st - (a - t)) - (sj + 8) / 16))) (by exact Nat.le_refl _) (.int .i64 (a - t)))
                simp only [setRow] at BF UF
                exact bodyPost_ret (v := .agg #[.bool true, .int .i64 q, .int .i64 sh, .int .i64 (sr + 1), .int .i64 sx, .int .i64 sy, .int .i64 (a - t), .int .i64 (sj + max (a - t - st) (st - (a - t)) - (sj + 8) / 16)]) (res_c Try.results13 rfl (run_loadVar_row (P := Try.prog) _ _ _ _ _ _ _ BF Try.underlying23 rfl (by kernel_rfl))) rfl ⟨rfl, UF⟩
            · rw [show min sb q = sb by omega] at hR
              by_cases h2 : sh < q
              · rw [show max sh q = q by omega, ← Int.add_sub_assoc] at hR
                subst hR
                have h1' : sb ≤ q := by omega
                go_enter Try.func13, Try.ntmps13
                go_wp2_with fail
                refine (K0.out _).mono ?_
                rintro e w1 ⟨rfl, hb1⟩
                obtain ⟨B0, B1, U⟩ := fin w1 hb1
                clear hb1 fin
                have h10 : w.heap.size + 1 ≠ w.heap.size := by omega
                have h01 : w.heap.size ≠ w.heap.size + 1 := by omega
                have f0 := B0.out.at 0 _ rfl
                have f1 := B0.out.at 1 _ rfl
                have f2 := B0.out.at 2 _ rfl
                have f3 := B0.out.at 3 _ rfl
                have f4 := B0.out.at 4 _ rfl
                have f5 := B0.out.at 5 _ rfl
                have f6 := B0.out.at 6 _ rfl
                have f7 := B0.out.at 7 _ rfl
                have fz := B0.out.frozen
                have r0 := B1.out.at 0 _ rfl
                have r1 := B1.out.at 1 _ rfl
                have r2 := B1.out.at 2 _ rfl
                have r3 := B1.out.at 3 _ rfl
                have r4 := B1.out.at 4 _ rfl
                have r5 := B1.out.at 5 _ rfl
                have r6 := B1.out.at 6 _ rfl
                have r7 := B1.out.at 7 _ rfl
                have rz := B1.out.frozen
                go_wp2_with fail
                refine (K1.out _).mono ?_
                rintro e w1 ⟨rfl, rfl⟩
                go_wp2_with fail
                refine (K2.out _).mono ?_
                rintro e w1 ⟨rfl, rfl⟩
                go_wp2_with fail
                refine (K3.out _).mono ?_
                rintro e w1 ⟨rfl, rfl⟩
                go_wp2
                have BF : Blk (setRow (w.heap.size + 1) ((((w1.setCell ⟨w.heap.size, 2, none⟩ (.int .i64 q)).setCell ⟨w.heap.size, 3, none⟩ (.int .i64 (sr + 1))).setCell ⟨w.heap.size, 7, none⟩ (.int .i64 (sj + max (a - t - st) (st - (a - t)) - (sj + 8) / 16))).setCell ⟨w.heap.size, 6, none⟩ (.int .i64 (a - t))) 0 [.bool true, .int .i64 sb, .int .i64 q, .int .i64 (sr + 1), .int .i64 sx, .int .i64 sy, .int .i64 (a - t), .int .i64 (sj + max (a - t - st) (st - (a - t)) - (sj + 8) / 16)]) (w.heap.size + 1) 23 #[.bool true, .int .i64 sb, .int .i64 q, .int .i64 (sr + 1), .int .i64 sx, .int .i64 sy, .int .i64 (a - t), .int .i64 (sj + max (a - t - st) (st - (a - t)) - (sj + 8) / 16)] := Blk.setRow ((((B1.out.far h10 (.int .i64 q)).far h10 (.int .i64 (sr + 1))).far h10 (.int .i64 (sj + max (a - t - st) (st - (a - t)) - (sj + 8) / 16))).far h10 (.int .i64 (a - t))) [.bool true, .int .i64 sb, .int .i64 q, .int .i64 (sr + 1), .int .i64 sx, .int .i64 sy, .int .i64 (a - t), .int .i64 (sj + max (a - t - st) (st - (a - t)) - (sj + 8) / 16)] rfl
                have UF : Below w.heap.size w (setRow (w.heap.size + 1) ((((w1.setCell ⟨w.heap.size, 2, none⟩ (.int .i64 q)).setCell ⟨w.heap.size, 3, none⟩ (.int .i64 (sr + 1))).setCell ⟨w.heap.size, 7, none⟩ (.int .i64 (sj + max (a - t - st) (st - (a - t)) - (sj + 8) / 16))).setCell ⟨w.heap.size, 6, none⟩ (.int .i64 (a - t))) 0 [.bool true, .int .i64 sb, .int .i64 q, .int .i64 (sr + 1), .int .i64 sx, .int .i64 sy, .int .i64 (a - t), .int .i64 (sj + max (a - t - st) (st - (a - t)) - (sj + 8) / 16)]) := below_setRow (by omega) [.bool true, .int .i64 sb, .int .i64 q, .int .i64 (sr + 1), .int .i64 sx, .int .i64 sy, .int .i64 (a - t), .int .i64 (sj + max (a - t - st) (st - (a - t)) - (sj + 8) / 16)] _ 0 (Below.setCell (Below.setCell (Below.setCell (Below.setCell U.out (by exact Nat.le_refl _) (.int .i64 q)) (by exact Nat.le_refl _) (.int .i64 (sr + 1))) (by exact Nat.le_refl _) (.int .i64 (sj + max (a - t - st) (st - (a - t)) - (sj + 8) / 16))) (by exact Nat.le_refl _) (.int .i64 (a - t)))
                simp only [setRow] at BF UF
                exact bodyPost_ret (v := .agg #[.bool true, .int .i64 sb, .int .i64 q, .int .i64 (sr + 1), .int .i64 sx, .int .i64 sy, .int .i64 (a - t), .int .i64 (sj + max (a - t - st) (st - (a - t)) - (sj + 8) / 16)]) (res_c Try.results13 rfl (run_loadVar_row (P := Try.prog) _ _ _ _ _ _ _ BF Try.underlying23 rfl (by kernel_rfl))) rfl ⟨rfl, UF⟩
              · rw [show max sh q = sh by omega, ← Int.add_sub_assoc] at hR
                subst hR
                have h1' : sb ≤ q := by omega
                have h2' : q ≤ sh := by omega
                go_enter Try.func13, Try.ntmps13
                go_wp2_with fail
                refine (K0.out _).mono ?_
                rintro e w1 ⟨rfl, hb1⟩
                obtain ⟨B0, B1, U⟩ := fin w1 hb1
                clear hb1 fin
                have h10 : w.heap.size + 1 ≠ w.heap.size := by omega
                have h01 : w.heap.size ≠ w.heap.size + 1 := by omega
                have f0 := B0.out.at 0 _ rfl
                have f1 := B0.out.at 1 _ rfl
                have f2 := B0.out.at 2 _ rfl
                have f3 := B0.out.at 3 _ rfl
                have f4 := B0.out.at 4 _ rfl
                have f5 := B0.out.at 5 _ rfl
                have f6 := B0.out.at 6 _ rfl
                have f7 := B0.out.at 7 _ rfl
                have fz := B0.out.frozen
                have r0 := B1.out.at 0 _ rfl
                have r1 := B1.out.at 1 _ rfl
                have r2 := B1.out.at 2 _ rfl
                have r3 := B1.out.at 3 _ rfl
                have r4 := B1.out.at 4 _ rfl
                have r5 := B1.out.at 5 _ rfl
                have r6 := B1.out.at 6 _ rfl
                have r7 := B1.out.at 7 _ rfl
                have rz := B1.out.frozen
                go_wp2_with fail
                refine (K1.out _).mono ?_
                rintro e w1 ⟨rfl, rfl⟩
                go_wp2_with fail
                refine (K2.out _).mono ?_
                rintro e w1 ⟨rfl, rfl⟩
                go_wp2_with fail
                refine (K3.out _).mono ?_
                rintro e w1 ⟨rfl, rfl⟩
                go_wp2
                have BF : Blk (setRow (w.heap.size + 1) (((w1.setCell ⟨w.heap.size, 3, none⟩ (.int .i64 (sr + 1))).setCell ⟨w.heap.size, 7, none⟩ (.int .i64 (sj + max (a - t - st) (st - (a - t)) - (sj + 8) / 16))).setCell ⟨w.heap.size, 6, none⟩ (.int .i64 (a - t))) 0 [.bool true, .int .i64 sb, .int .i64 sh, .int .i64 (sr + 1), .int .i64 sx, .int .i64 sy, .int .i64 (a - t), .int .i64 (sj + max (a - t - st) (st - (a - t)) - (sj + 8) / 16)]) (w.heap.size + 1) 23 #[.bool true, .int .i64 sb, .int .i64 sh, .int .i64 (sr + 1), .int .i64 sx, .int .i64 sy, .int .i64 (a - t), .int .i64 (sj + max (a - t - st) (st - (a - t)) - (sj + 8) / 16)] := Blk.setRow (((B1.out.far h10 (.int .i64 (sr + 1))).far h10 (.int .i64 (sj + max (a - t - st) (st - (a - t)) - (sj + 8) / 16))).far h10 (.int .i64 (a - t))) [.bool true, .int .i64 sb, .int .i64 sh, .int .i64 (sr + 1), .int .i64 sx, .int .i64 sy, .int .i64 (a - t), .int .i64 (sj + max (a - t - st) (st - (a - t)) - (sj + 8) / 16)] rfl
                have UF : Below w.heap.size w (setRow (w.heap.size + 1) (((w1.setCell ⟨w.heap.size, 3, none⟩ (.int .i64 (sr + 1))).setCell ⟨w.heap.size, 7, none⟩ (.int .i64 (sj + max (a - t - st) (st - (a - t)) - (sj + 8) / 16))).setCell ⟨w.heap.size, 6, none⟩ (.int .i64 (a - t))) 0 [.bool true, .int .i64 sb, .int .i64 sh, .int .i64 (sr + 1), .int .i64 sx, .int .i64 sy, .int .i64 (a - t), .int .i64 (sj + max (a - t - st) (st - (a - t)) - (sj + 8) / 16)]) := below_setRow (by omega) [.bool true, .int .i64 sb, .int .i64 sh, .int .i64 (sr + 1), .int .i64 sx, .int .i64 sy, .int .i64 (a - t), .int .i64 (sj + max (a - t - st) (st - (a - t)) - (sj + 8) / 16)] _ 0 (Below.setCell (Below.setCell (Below.setCell U.out (by exact Nat.le_refl _) (.int .i64 (sr + 1))) (by exact Nat.le_refl _) (.int .i64 (sj + max (a - t - st) (st - (a - t)) - (sj + 8) / 16))) (by exact Nat.le_refl _) (.int .i64 (a - t)))
                simp only [setRow] at BF UF
                exact bodyPost_ret (v := .agg #[.bool true, .int .i64 sb, .int .i64 sh, .int .i64 (sr + 1), .int .i64 sx, .int .i64 sy, .int .i64 (a - t), .int .i64 (sj + max (a - t - st) (st - (a - t)) - (sj + 8) / 16)]) (res_c Try.results13 rfl (run_loadVar_row (P := Try.prog) _ _ _ _ _ _ _ BF Try.underlying23 rfl (by kernel_rfl))) rfl ⟨rfl, UF⟩
end
end Go.Proofs.Ythmcbmjjngolmaa
