/- Layer 26: which statistics are valid, in the program and in the reference. -/
import Derived.Test.YthmcbmjjngolmaaRepValid
namespace Go.Proofs.Ythmcbmjjngolmaa
open Go.RowKit
set_option linter.unusedVariables false
set_option linter.unusedSimpArgs false
theorem IntsAt.new_at (w : World) (e : TypeId) (k : IntKind) (zs : List Int) (cs : List Value) (h : cs = zs.map (Value.int k)) (g : Nat) (hg : w.heap.size = g) : IntsAt (w.alloc (.cells cs.toArray e)) (w.alloc (.cells cs.toArray e)).heap.size k (some ⟨g, 0, none⟩) zs := by
  subst hg
  exact IntsAt.new w e k zs cs h
section
variable (s0 : Bool) (sb sh sr sx sy st sj : Int) (w : World)
theorem Rep.okS_bd (h : Rep.okS ⟨s0, sb, sh, sr, sx, sy, st, sj⟩ = true) : -1125899906842624 ≤ sb ∧ sb ≤ 1125899906842624 ∧ -1125899906842624 ≤ sh ∧ sh ≤ 1125899906842624 ∧ -1125899906842624 ≤ st ∧ st ≤ 1125899906842624 ∧ sb ≤ sh ∧ 0 ≤ sr ∧ sr ≤ 1125899906842624 ∧ 0 ≤ sx ∧ sx ≤ 1125899906842624 ∧ 0 ≤ sy ∧ sy ≤ 1125899906842624 ∧ 0 ≤ sj ∧ sj ≤ 72057594037927936 := by
  rw [Rep.okS_iff] at h
  simp only at h
  omega
set_option maxHeartbeats 800000 in
theorem valid_any : Calls Try.prog 27 #[.agg #[.bool s0, .int .i64 sb, .int .i64 sh, .int .i64 sr, .int .i64 sx, .int .i64 sy, .int .i64 st, .int .i64 sj]] w fun e w' => e = .returned (.bool (Rep.okS ⟨s0, sb, sh, sr, sx, sy, st, sj⟩)) ∧ Below w.heap.size w w' := by
  have h : Rep.okS ⟨s0, sb, sh, sr, sx, sy, st, sj⟩ = (Rep.all (-1125899906842624) 1125899906842624 [sb, sh, st] && decide (sb ≤ sh) && Rep.all 0 1125899906842624 [sr, sx, sy] && Rep.all 0 72057594037927936 [sj]) := rfl
  rw [h]
  clear h
  have k1 := fun A c W h => valid1_any (-1125899906842624) 1125899906842624 A [sb, sh, st] c 3 W rfl h (by omega)
  have k2 := fun A c W h => valid1_any 0 1125899906842624 A [sr, sx, sy] c 3 W rfl h (by omega)
  have k3 := fun A c W h => valid1_any 0 72057594037927936 A [sj] c 1 W rfl h (by omega)
  generalize Rep.all (-1125899906842624) 1125899906842624 [sb, sh, st] = b1 at *
  generalize Rep.all 0 1125899906842624 [sr, sx, sy] = b3 at *
  generalize Rep.all 0 72057594037927936 [sj] = b4 at *
  have K1 := Lib.hid k1
  have K2 := Lib.hid k2
  have K3 := Lib.hid k3
  clear k1 k2 k3
  cases b1
  · go_enter Try.func27, Try.ntmps27
    go_wp2_with fail
    refine (K1.out _ _ _ (IntsAt.new_at (w.alloc (.cells #[.bool s0, .int .i64 sb, .int .i64 sh, .int .i64 sr, .int .i64 sx, .int .i64 sy, .int .i64 st, .int .i64 sj] 23)) 2 .i64 [sb, sh, st] [.int .i64 sb, .int .i64 sh, .int .i64 st] rfl _ (by rw [size_alloc1]))).mono ?_
    rintro e w1 ⟨rfl, rfl⟩
    go_wp2
    go_ret
    exact ⟨rfl, Bel.push (Bel.push (Bel.refl w) _) _⟩
  · cases hb : decide (sb ≤ sh)
    · go_enter Try.func27, Try.ntmps27
      go_wp2_with fail
      refine (K1.out _ _ _ (IntsAt.new_at (w.alloc (.cells #[.bool s0, .int .i64 sb, .int .i64 sh, .int .i64 sr, .int .i64 sx, .int .i64 sy, .int .i64 st, .int .i64 sj] 23)) 2 .i64 [sb, sh, st] [.int .i64 sb, .int .i64 sh, .int .i64 st] rfl _ (by rw [size_alloc1]))).mono ?_
      rintro e w1 ⟨rfl, rfl⟩
      go_wp2
      go_ret
      exact ⟨rfl, Bel.push (Bel.push (Bel.refl w) _) _⟩
    · cases b3
      · go_enter Try.func27, Try.ntmps27
        go_wp2_with fail
        refine (K1.out _ _ _ (IntsAt.new_at (w.alloc (.cells #[.bool s0, .int .i64 sb, .int .i64 sh, .int .i64 sr, .int .i64 sx, .int .i64 sy, .int .i64 st, .int .i64 sj] 23)) 2 .i64 [sb, sh, st] [.int .i64 sb, .int .i64 sh, .int .i64 st] rfl _ (by rw [size_alloc1]))).mono ?_
        rintro e w1 ⟨rfl, rfl⟩
        go_wp2_with fail
        refine (K2.out _ _ _ (IntsAt.new_at ((w.alloc (.cells #[.bool s0, .int .i64 sb, .int .i64 sh, .int .i64 sr, .int .i64 sx, .int .i64 sy, .int .i64 st, .int .i64 sj] 23)).alloc (.cells #[.int .i64 sb, .int .i64 sh, .int .i64 st] 2)) 2 .i64 [sr, sx, sy] [.int .i64 sr, .int .i64 sx, .int .i64 sy] rfl _ (by rw [size_alloc2]))).mono ?_
        rintro e w1 ⟨rfl, rfl⟩
        go_wp2
        go_ret
        exact ⟨rfl, Bel.push (Bel.push (Bel.push (Bel.refl w) _) _) _⟩
      · go_enter Try.func27, Try.ntmps27
        go_wp2_with fail
        refine (K1.out _ _ _ (IntsAt.new_at (w.alloc (.cells #[.bool s0, .int .i64 sb, .int .i64 sh, .int .i64 sr, .int .i64 sx, .int .i64 sy, .int .i64 st, .int .i64 sj] 23)) 2 .i64 [sb, sh, st] [.int .i64 sb, .int .i64 sh, .int .i64 st] rfl _ (by rw [size_alloc1]))).mono ?_
        rintro e w1 ⟨rfl, rfl⟩
        go_wp2_with fail
        refine (K2.out _ _ _ (IntsAt.new_at ((w.alloc (.cells #[.bool s0, .int .i64 sb, .int .i64 sh, .int .i64 sr, .int .i64 sx, .int .i64 sy, .int .i64 st, .int .i64 sj] 23)).alloc (.cells #[.int .i64 sb, .int .i64 sh, .int .i64 st] 2)) 2 .i64 [sr, sx, sy] [.int .i64 sr, .int .i64 sx, .int .i64 sy] rfl _ (by rw [size_alloc2]))).mono ?_
        rintro e w1 ⟨rfl, rfl⟩
        go_wp2_with fail
        refine (K3.out _ _ _ (IntsAt.new_at (((w.alloc (.cells #[.bool s0, .int .i64 sb, .int .i64 sh, .int .i64 sr, .int .i64 sx, .int .i64 sy, .int .i64 st, .int .i64 sj] 23)).alloc (.cells #[.int .i64 sb, .int .i64 sh, .int .i64 st] 2)).alloc (.cells #[.int .i64 sr, .int .i64 sx, .int .i64 sy] 2)) 2 .i64 [sj] [.int .i64 sj] rfl _ (by rw [size_alloc3]))).mono ?_
        rintro e w1 ⟨rfl, rfl⟩
        go_wp2
        go_ret
        exact ⟨rfl, Bel.push (Bel.push (Bel.push (Bel.push (Bel.refl w) _) _) _) _⟩
theorem Rep.okS_no (h : ¬((-1125899906842624 ≤ sb ∧ sb ≤ 1125899906842624) ∧ (-1125899906842624 ≤ sh ∧ sh ≤ 1125899906842624) ∧ (-1125899906842624 ≤ st ∧ st ≤ 1125899906842624) ∧ sb ≤ sh ∧ 0 ≤ sr ∧ sr ≤ 1125899906842624 ∧ 0 ≤ sx ∧ sx ≤ 1125899906842624 ∧ 0 ≤ sy ∧ sy ≤ 1125899906842624 ∧ 0 ≤ sj ∧ sj ≤ 72057594037927936)) : Rep.okS ⟨s0, sb, sh, sr, sx, sy, st, sj⟩ = false := by
  rw [Bool.eq_false_iff]
  intro h2
  have := Rep.okS_bd _ _ _ _ _ _ _ _ h2
  omega
set_option maxHeartbeats 1600000 in
theorem rValid_any : Calls Try.prog 28 #[.agg #[.bool s0, .int .i64 sb, .int .i64 sh, .int .i64 sr, .int .i64 sx, .int .i64 sy, .int .i64 st, .int .i64 sj]] w fun e w' => e = .returned (.bool (Rep.okS ⟨s0, sb, sh, sr, sx, sy, st, sj⟩)) ∧ Below w.heap.size w w' := by
  by_cases c0 : -1125899906842624 ≤ sb ∧ sb ≤ 1125899906842624
  rotate_left
  · have hv : Rep.okS ⟨s0, sb, sh, sr, sx, sy, st, sj⟩ = false := Rep.okS_no _ _ _ _ _ _ _ _ (by omega)
    have HV := Lib.hid hv
    clear hv
    have kw0 := fun W => within_any sb 1125899906842624 W (by omega) (by omega)
    rw [show Rep.inB (-1125899906842624) 1125899906842624 sb = false from by rw [Bool.eq_false_iff]; intro h; rw [Rep.inB_iff] at h; omega] at kw0
    replace kw0 := Lib.hid kw0
    go_enter Try.func28, Try.ntmps28
    go_wp2_with fail
    refine (kw0.out _).mono ?_
    rintro e w1 ⟨rfl, rfl⟩
    go_wp2
    go_ret
    exact ⟨by rw [HV.out]; rfl, Bel.push (Bel.refl w) _⟩
  by_cases c1 : -1125899906842624 ≤ sh ∧ sh ≤ 1125899906842624
  rotate_left
  · have hv : Rep.okS ⟨s0, sb, sh, sr, sx, sy, st, sj⟩ = false := Rep.okS_no _ _ _ _ _ _ _ _ (by omega)
    have HV := Lib.hid hv
    clear hv
    have kw0 := fun W => within_any sb 1125899906842624 W (by omega) (by omega)
    rw [show Rep.inB (-1125899906842624) 1125899906842624 sb = true from by rw [Rep.inB_iff]; omega] at kw0
    replace kw0 := Lib.hid kw0
    have kw1 := fun W => within_any sh 1125899906842624 W (by omega) (by omega)
    rw [show Rep.inB (-1125899906842624) 1125899906842624 sh = false from by rw [Bool.eq_false_iff]; intro h; rw [Rep.inB_iff] at h; omega] at kw1
    replace kw1 := Lib.hid kw1
    go_enter Try.func28, Try.ntmps28
    go_wp2_with fail
    refine (kw0.out _).mono ?_
    rintro e w1 ⟨rfl, rfl⟩
    go_wp2_with fail
    refine (kw1.out _).mono ?_
    rintro e w1 ⟨rfl, rfl⟩
    go_wp2
    go_ret
    exact ⟨by rw [HV.out]; rfl, Bel.push (Bel.refl w) _⟩
  by_cases c2 : -1125899906842624 ≤ st ∧ st ≤ 1125899906842624
  rotate_left
  · have hv : Rep.okS ⟨s0, sb, sh, sr, sx, sy, st, sj⟩ = false := Rep.okS_no _ _ _ _ _ _ _ _ (by omega)
    have HV := Lib.hid hv
    clear hv
    have kw0 := fun W => within_any sb 1125899906842624 W (by omega) (by omega)
    rw [show Rep.inB (-1125899906842624) 1125899906842624 sb = true from by rw [Rep.inB_iff]; omega] at kw0
    replace kw0 := Lib.hid kw0
    have kw1 := fun W => within_any sh 1125899906842624 W (by omega) (by omega)
    rw [show Rep.inB (-1125899906842624) 1125899906842624 sh = true from by rw [Rep.inB_iff]; omega] at kw1
    replace kw1 := Lib.hid kw1
    have kw2 := fun W => within_any st 1125899906842624 W (by omega) (by omega)
    rw [show Rep.inB (-1125899906842624) 1125899906842624 st = false from by rw [Bool.eq_false_iff]; intro h; rw [Rep.inB_iff] at h; omega] at kw2
    replace kw2 := Lib.hid kw2
    go_enter Try.func28, Try.ntmps28
    go_wp2_with fail
    refine (kw0.out _).mono ?_
    rintro e w1 ⟨rfl, rfl⟩
    go_wp2_with fail
    refine (kw1.out _).mono ?_
    rintro e w1 ⟨rfl, rfl⟩
    go_wp2_with fail
    refine (kw2.out _).mono ?_
    rintro e w1 ⟨rfl, rfl⟩
    go_wp2
    go_ret
    exact ⟨by rw [HV.out]; rfl, Bel.push (Bel.refl w) _⟩
  by_cases c3 : sb ≤ sh
  rotate_left
  · have hv : Rep.okS ⟨s0, sb, sh, sr, sx, sy, st, sj⟩ = false := Rep.okS_no _ _ _ _ _ _ _ _ (by omega)
    have HV := Lib.hid hv
    clear hv
    have kw0 := fun W => within_any sb 1125899906842624 W (by omega) (by omega)
    rw [show Rep.inB (-1125899906842624) 1125899906842624 sb = true from by rw [Rep.inB_iff]; omega] at kw0
    replace kw0 := Lib.hid kw0
    have kw1 := fun W => within_any sh 1125899906842624 W (by omega) (by omega)
    rw [show Rep.inB (-1125899906842624) 1125899906842624 sh = true from by rw [Rep.inB_iff]; omega] at kw1
    replace kw1 := Lib.hid kw1
    have kw2 := fun W => within_any st 1125899906842624 W (by omega) (by omega)
    rw [show Rep.inB (-1125899906842624) 1125899906842624 st = true from by rw [Rep.inB_iff]; omega] at kw2
    replace kw2 := Lib.hid kw2
    have t3 : decide (sh < sb) = true := by simp; omega
    go_enter Try.func28, Try.ntmps28
    go_wp2_with fail
    refine (kw0.out _).mono ?_
    rintro e w1 ⟨rfl, rfl⟩
    go_wp2_with fail
    refine (kw1.out _).mono ?_
    rintro e w1 ⟨rfl, rfl⟩
    go_wp2_with fail
    refine (kw2.out _).mono ?_
    rintro e w1 ⟨rfl, rfl⟩
    go_wp2
    go_ret
    exact ⟨by rw [HV.out]; rfl, Bel.push (Bel.refl w) _⟩
  by_cases c4 : 0 ≤ sr
  rotate_left
  · have hv : Rep.okS ⟨s0, sb, sh, sr, sx, sy, st, sj⟩ = false := Rep.okS_no _ _ _ _ _ _ _ _ (by omega)
    have HV := Lib.hid hv
    clear hv
    have kw0 := fun W => within_any sb 1125899906842624 W (by omega) (by omega)
    rw [show Rep.inB (-1125899906842624) 1125899906842624 sb = true from by rw [Rep.inB_iff]; omega] at kw0
    replace kw0 := Lib.hid kw0
    have kw1 := fun W => within_any sh 1125899906842624 W (by omega) (by omega)
    rw [show Rep.inB (-1125899906842624) 1125899906842624 sh = true from by rw [Rep.inB_iff]; omega] at kw1
    replace kw1 := Lib.hid kw1
    have kw2 := fun W => within_any st 1125899906842624 W (by omega) (by omega)
    rw [show Rep.inB (-1125899906842624) 1125899906842624 st = true from by rw [Rep.inB_iff]; omega] at kw2
    replace kw2 := Lib.hid kw2
    have t3 : decide (sh < sb) = false := by simp; omega
    have t4 : decide (sr < 0) = true := by simp; omega
    go_enter Try.func28, Try.ntmps28
    go_wp2_with fail
    refine (kw0.out _).mono ?_
    rintro e w1 ⟨rfl, rfl⟩
    go_wp2_with fail
    refine (kw1.out _).mono ?_
    rintro e w1 ⟨rfl, rfl⟩
    go_wp2_with fail
    refine (kw2.out _).mono ?_
    rintro e w1 ⟨rfl, rfl⟩
    go_wp2
    go_ret
    exact ⟨by rw [HV.out]; rfl, Bel.push (Bel.refl w) _⟩
  by_cases c5 : sr ≤ 1125899906842624
  rotate_left
  · have hv : Rep.okS ⟨s0, sb, sh, sr, sx, sy, st, sj⟩ = false := Rep.okS_no _ _ _ _ _ _ _ _ (by omega)
    have HV := Lib.hid hv
    clear hv
    have kw0 := fun W => within_any sb 1125899906842624 W (by omega) (by omega)
    rw [show Rep.inB (-1125899906842624) 1125899906842624 sb = true from by rw [Rep.inB_iff]; omega] at kw0
    replace kw0 := Lib.hid kw0
    have kw1 := fun W => within_any sh 1125899906842624 W (by omega) (by omega)
    rw [show Rep.inB (-1125899906842624) 1125899906842624 sh = true from by rw [Rep.inB_iff]; omega] at kw1
    replace kw1 := Lib.hid kw1
    have kw2 := fun W => within_any st 1125899906842624 W (by omega) (by omega)
    rw [show Rep.inB (-1125899906842624) 1125899906842624 st = true from by rw [Rep.inB_iff]; omega] at kw2
    replace kw2 := Lib.hid kw2
    have t3 : decide (sh < sb) = false := by simp; omega
    have t4 : decide (sr < 0) = false := by simp; omega
    have t5 : decide (1125899906842624 < sr) = true := by simp; omega
    go_enter Try.func28, Try.ntmps28
    go_wp2_with fail
    refine (kw0.out _).mono ?_
    rintro e w1 ⟨rfl, rfl⟩
    go_wp2_with fail
    refine (kw1.out _).mono ?_
    rintro e w1 ⟨rfl, rfl⟩
    go_wp2_with fail
    refine (kw2.out _).mono ?_
    rintro e w1 ⟨rfl, rfl⟩
    go_wp2
    go_ret
    exact ⟨by rw [HV.out]; rfl, Bel.push (Bel.refl w) _⟩
  by_cases c6 : 0 ≤ sx
  rotate_left
  · have hv : Rep.okS ⟨s0, sb, sh, sr, sx, sy, st, sj⟩ = false := Rep.okS_no _ _ _ _ _ _ _ _ (by omega)
    have HV := Lib.hid hv
    clear hv
    have kw0 := fun W => within_any sb 1125899906842624 W (by omega) (by omega)
    rw [show Rep.inB (-1125899906842624) 1125899906842624 sb = true from by rw [Rep.inB_iff]; omega] at kw0
    replace kw0 := Lib.hid kw0
    have kw1 := fun W => within_any sh 1125899906842624 W (by omega) (by omega)
    rw [show Rep.inB (-1125899906842624) 1125899906842624 sh = true from by rw [Rep.inB_iff]; omega] at kw1
    replace kw1 := Lib.hid kw1
    have kw2 := fun W => within_any st 1125899906842624 W (by omega) (by omega)
    rw [show Rep.inB (-1125899906842624) 1125899906842624 st = true from by rw [Rep.inB_iff]; omega] at kw2
    replace kw2 := Lib.hid kw2
    have t3 : decide (sh < sb) = false := by simp; omega
    have t4 : decide (sr < 0) = false := by simp; omega
    have t5 : decide (1125899906842624 < sr) = false := by simp; omega
    have t6 : decide (sx < 0) = true := by simp; omega
    go_enter Try.func28, Try.ntmps28
    go_wp2_with fail
    refine (kw0.out _).mono ?_
    rintro e w1 ⟨rfl, rfl⟩
    go_wp2_with fail
    refine (kw1.out _).mono ?_
    rintro e w1 ⟨rfl, rfl⟩
    go_wp2_with fail
    refine (kw2.out _).mono ?_
    rintro e w1 ⟨rfl, rfl⟩
    go_wp2
    go_ret
    exact ⟨by rw [HV.out]; rfl, Bel.push (Bel.refl w) _⟩
  by_cases c7 : sx ≤ 1125899906842624
  rotate_left
  · have hv : Rep.okS ⟨s0, sb, sh, sr, sx, sy, st, sj⟩ = false := Rep.okS_no _ _ _ _ _ _ _ _ (by omega)
    have HV := Lib.hid hv
    clear hv
    have kw0 := fun W => within_any sb 1125899906842624 W (by omega) (by omega)
    rw [show Rep.inB (-1125899906842624) 1125899906842624 sb = true from by rw [Rep.inB_iff]; omega] at kw0
    replace kw0 := Lib.hid kw0
    have kw1 := fun W => within_any sh 1125899906842624 W (by omega) (by omega)
    rw [show Rep.inB (-1125899906842624) 1125899906842624 sh = true from by rw [Rep.inB_iff]; omega] at kw1
    replace kw1 := Lib.hid kw1
    have kw2 := fun W => within_any st 1125899906842624 W (by omega) (by omega)
    rw [show Rep.inB (-1125899906842624) 1125899906842624 st = true from by rw [Rep.inB_iff]; omega] at kw2
    replace kw2 := Lib.hid kw2
    have t3 : decide (sh < sb) = false := by simp; omega
    have t4 : decide (sr < 0) = false := by simp; omega
    have t5 : decide (1125899906842624 < sr) = false := by simp; omega
    have t6 : decide (sx < 0) = false := by simp; omega
    have t7 : decide (1125899906842624 < sx) = true := by simp; omega
    go_enter Try.func28, Try.ntmps28
    go_wp2_with fail
    refine (kw0.out _).mono ?_
    rintro e w1 ⟨rfl, rfl⟩
    go_wp2_with fail
    refine (kw1.out _).mono ?_
    rintro e w1 ⟨rfl, rfl⟩
    go_wp2_with fail
    refine (kw2.out _).mono ?_
    rintro e w1 ⟨rfl, rfl⟩
    go_wp2
    go_ret
    exact ⟨by rw [HV.out]; rfl, Bel.push (Bel.refl w) _⟩
  by_cases c8 : 0 ≤ sy
  rotate_left
  · have hv : Rep.okS ⟨s0, sb, sh, sr, sx, sy, st, sj⟩ = false := Rep.okS_no _ _ _ _ _ _ _ _ (by omega)
    have HV := Lib.hid hv
    clear hv
    have kw0 := fun W => within_any sb 1125899906842624 W (by omega) (by omega)
    rw [show Rep.inB (-1125899906842624) 1125899906842624 sb = true from by rw [Rep.inB_iff]; omega] at kw0
    replace kw0 := Lib.hid kw0
    have kw1 := fun W => within_any sh 1125899906842624 W (by omega) (by omega)
    rw [show Rep.inB (-1125899906842624) 1125899906842624 sh = true from by rw [Rep.inB_iff]; omega] at kw1
    replace kw1 := Lib.hid kw1
    have kw2 := fun W => within_any st 1125899906842624 W (by omega) (by omega)
    rw [show Rep.inB (-1125899906842624) 1125899906842624 st = true from by rw [Rep.inB_iff]; omega] at kw2
    replace kw2 := Lib.hid kw2
    have t3 : decide (sh < sb) = false := by simp; omega
    have t4 : decide (sr < 0) = false := by simp; omega
    have t5 : decide (1125899906842624 < sr) = false := by simp; omega
    have t6 : decide (sx < 0) = false := by simp; omega
    have t7 : decide (1125899906842624 < sx) = false := by simp; omega
    have t8 : decide (sy < 0) = true := by simp; omega
    go_enter Try.func28, Try.ntmps28
    go_wp2_with fail
    refine (kw0.out _).mono ?_
    rintro e w1 ⟨rfl, rfl⟩
    go_wp2_with fail
    refine (kw1.out _).mono ?_
    rintro e w1 ⟨rfl, rfl⟩
    go_wp2_with fail
    refine (kw2.out _).mono ?_
    rintro e w1 ⟨rfl, rfl⟩
    go_wp2
    go_ret
    exact ⟨by rw [HV.out]; rfl, Bel.push (Bel.refl w) _⟩
  by_cases c9 : sy ≤ 1125899906842624
  rotate_left
  · have hv : Rep.okS ⟨s0, sb, sh, sr, sx, sy, st, sj⟩ = false := Rep.okS_no _ _ _ _ _ _ _ _ (by omega)
    have HV := Lib.hid hv
    clear hv
    have kw0 := fun W => within_any sb 1125899906842624 W (by omega) (by omega)
    rw [show Rep.inB (-1125899906842624) 1125899906842624 sb = true from by rw [Rep.inB_iff]; omega] at kw0
    replace kw0 := Lib.hid kw0
    have kw1 := fun W => within_any sh 1125899906842624 W (by omega) (by omega)
    rw [show Rep.inB (-1125899906842624) 1125899906842624 sh = true from by rw [Rep.inB_iff]; omega] at kw1
    replace kw1 := Lib.hid kw1
    have kw2 := fun W => within_any st 1125899906842624 W (by omega) (by omega)
    rw [show Rep.inB (-1125899906842624) 1125899906842624 st = true from by rw [Rep.inB_iff]; omega] at kw2
    replace kw2 := Lib.hid kw2
    have t3 : decide (sh < sb) = false := by simp; omega
    have t4 : decide (sr < 0) = false := by simp; omega
    have t5 : decide (1125899906842624 < sr) = false := by simp; omega
    have t6 : decide (sx < 0) = false := by simp; omega
    have t7 : decide (1125899906842624 < sx) = false := by simp; omega
    have t8 : decide (sy < 0) = false := by simp; omega
    have t9 : decide (1125899906842624 < sy) = true := by simp; omega
    go_enter Try.func28, Try.ntmps28
    go_wp2_with fail
    refine (kw0.out _).mono ?_
    rintro e w1 ⟨rfl, rfl⟩
    go_wp2_with fail
    refine (kw1.out _).mono ?_
    rintro e w1 ⟨rfl, rfl⟩
    go_wp2_with fail
    refine (kw2.out _).mono ?_
    rintro e w1 ⟨rfl, rfl⟩
    go_wp2
    go_ret
    exact ⟨by rw [HV.out]; rfl, Bel.push (Bel.refl w) _⟩
  by_cases c10 : 0 ≤ sj
  rotate_left
  · have hv : Rep.okS ⟨s0, sb, sh, sr, sx, sy, st, sj⟩ = false := Rep.okS_no _ _ _ _ _ _ _ _ (by omega)
    have HV := Lib.hid hv
    clear hv
    have kw0 := fun W => within_any sb 1125899906842624 W (by omega) (by omega)
    rw [show Rep.inB (-1125899906842624) 1125899906842624 sb = true from by rw [Rep.inB_iff]; omega] at kw0
    replace kw0 := Lib.hid kw0
    have kw1 := fun W => within_any sh 1125899906842624 W (by omega) (by omega)
    rw [show Rep.inB (-1125899906842624) 1125899906842624 sh = true from by rw [Rep.inB_iff]; omega] at kw1
    replace kw1 := Lib.hid kw1
    have kw2 := fun W => within_any st 1125899906842624 W (by omega) (by omega)
    rw [show Rep.inB (-1125899906842624) 1125899906842624 st = true from by rw [Rep.inB_iff]; omega] at kw2
    replace kw2 := Lib.hid kw2
    have t3 : decide (sh < sb) = false := by simp; omega
    have t4 : decide (sr < 0) = false := by simp; omega
    have t5 : decide (1125899906842624 < sr) = false := by simp; omega
    have t6 : decide (sx < 0) = false := by simp; omega
    have t7 : decide (1125899906842624 < sx) = false := by simp; omega
    have t8 : decide (sy < 0) = false := by simp; omega
    have t9 : decide (1125899906842624 < sy) = false := by simp; omega
    have t10 : decide (0 ≤ sj) = false := by simp; omega
    go_enter Try.func28, Try.ntmps28
    go_wp2_with fail
    refine (kw0.out _).mono ?_
    rintro e w1 ⟨rfl, rfl⟩
    go_wp2_with fail
    refine (kw1.out _).mono ?_
    rintro e w1 ⟨rfl, rfl⟩
    go_wp2_with fail
    refine (kw2.out _).mono ?_
    rintro e w1 ⟨rfl, rfl⟩
    go_wp2
    go_ret
    exact ⟨by rw [HV.out]; rfl, Bel.push (Bel.refl w) _⟩
  by_cases c11 : sj ≤ 72057594037927936
  rotate_left
  · have hv : Rep.okS ⟨s0, sb, sh, sr, sx, sy, st, sj⟩ = false := Rep.okS_no _ _ _ _ _ _ _ _ (by omega)
    have HV := Lib.hid hv
    clear hv
    have kw0 := fun W => within_any sb 1125899906842624 W (by omega) (by omega)
    rw [show Rep.inB (-1125899906842624) 1125899906842624 sb = true from by rw [Rep.inB_iff]; omega] at kw0
    replace kw0 := Lib.hid kw0
    have kw1 := fun W => within_any sh 1125899906842624 W (by omega) (by omega)
    rw [show Rep.inB (-1125899906842624) 1125899906842624 sh = true from by rw [Rep.inB_iff]; omega] at kw1
    replace kw1 := Lib.hid kw1
    have kw2 := fun W => within_any st 1125899906842624 W (by omega) (by omega)
    rw [show Rep.inB (-1125899906842624) 1125899906842624 st = true from by rw [Rep.inB_iff]; omega] at kw2
    replace kw2 := Lib.hid kw2
    have t3 : decide (sh < sb) = false := by simp; omega
    have t4 : decide (sr < 0) = false := by simp; omega
    have t5 : decide (1125899906842624 < sr) = false := by simp; omega
    have t6 : decide (sx < 0) = false := by simp; omega
    have t7 : decide (1125899906842624 < sx) = false := by simp; omega
    have t8 : decide (sy < 0) = false := by simp; omega
    have t9 : decide (1125899906842624 < sy) = false := by simp; omega
    have t10 : decide (0 ≤ sj) = true := by simp; omega
    have t11 : decide (sj ≤ 72057594037927936) = false := by simp; omega
    go_enter Try.func28, Try.ntmps28
    go_wp2_with fail
    refine (kw0.out _).mono ?_
    rintro e w1 ⟨rfl, rfl⟩
    go_wp2_with fail
    refine (kw1.out _).mono ?_
    rintro e w1 ⟨rfl, rfl⟩
    go_wp2_with fail
    refine (kw2.out _).mono ?_
    rintro e w1 ⟨rfl, rfl⟩
    go_wp2
    go_ret
    exact ⟨by rw [HV.out]; rfl, Bel.push (Bel.refl w) _⟩
  have hv : Rep.okS ⟨s0, sb, sh, sr, sx, sy, st, sj⟩ = true := by rw [Rep.okS_iff]; simp only; omega
  have HV := Lib.hid hv
  clear hv
  have kw0 := fun W => within_any sb 1125899906842624 W (by omega) (by omega)
  rw [show Rep.inB (-1125899906842624) 1125899906842624 sb = true from by rw [Rep.inB_iff]; omega] at kw0
  replace kw0 := Lib.hid kw0
  have kw1 := fun W => within_any sh 1125899906842624 W (by omega) (by omega)
  rw [show Rep.inB (-1125899906842624) 1125899906842624 sh = true from by rw [Rep.inB_iff]; omega] at kw1
  replace kw1 := Lib.hid kw1
  have kw2 := fun W => within_any st 1125899906842624 W (by omega) (by omega)
  rw [show Rep.inB (-1125899906842624) 1125899906842624 st = true from by rw [Rep.inB_iff]; omega] at kw2
  replace kw2 := Lib.hid kw2
  have t3 : decide (sh < sb) = false := by simp; omega
  have t4 : decide (sr < 0) = false := by simp; omega
  have t5 : decide (1125899906842624 < sr) = false := by simp; omega
  have t6 : decide (sx < 0) = false := by simp; omega
  have t7 : decide (1125899906842624 < sx) = false := by simp; omega
  have t8 : decide (sy < 0) = false := by simp; omega
  have t9 : decide (1125899906842624 < sy) = false := by simp; omega
  have t10 : decide (0 ≤ sj) = true := by simp; omega
  have t11 : decide (sj ≤ 72057594037927936) = true := by simp; omega
  go_enter Try.func28, Try.ntmps28
  go_wp2_with fail
  refine (kw0.out _).mono ?_
  rintro e w1 ⟨rfl, rfl⟩
  go_wp2_with fail
  refine (kw1.out _).mono ?_
  rintro e w1 ⟨rfl, rfl⟩
  go_wp2_with fail
  refine (kw2.out _).mono ?_
  rintro e w1 ⟨rfl, rfl⟩
  go_wp2
  go_ret
  exact ⟨by rw [HV.out]; rfl, Bel.push (Bel.refl w) _⟩
end
end Go.Proofs.Ythmcbmjjngolmaa
