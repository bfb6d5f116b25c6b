/- Layer 26: Summary for every statistics. -/
import Derived.Test.YthmcbmjjngolmaaRepSum
namespace Go.Proofs.Ythmcbmjjngolmaa
open Go.RowKit
set_option linter.unusedVariables false
set_option linter.unusedSimpArgs false
section
variable (s0 : Bool) (sb sh sr sx sy st sj : Int) (w : World)
variable (so la de : Int)
theorem Summary_any : Calls Try.prog 10 #[.agg #[.bool s0, .int .i64 sb, .int .i64 sh, .int .i64 sr, .int .i64 sx, .int .i64 sy, .int .i64 st, .int .i64 sj], .int .u32 so, .int .u32 la, .int .u32 de] w fun e w' => e = .returned (.tuple #[.agg (Rep.summary ⟨s0, sb, sh, sr, sx, sy, st, sj⟩ so la de).1.row, .agg (Rep.summary ⟨s0, sb, sh, sr, sx, sy, st, sj⟩ so la de).2.row]) ∧ Below w.heap.size w w' := by
  cases ho : Rep.okS ⟨s0, sb, sh, sr, sx, sy, st, sj⟩
  · have h : Rep.summary ⟨s0, sb, sh, sr, sx, sy, st, sj⟩ so la de = (Rep.Bk.zero, Rep.St.zero) := by unfold Rep.summary; rw [if_pos ho]
    rw [h]
    exact Summary_bad s0 sb sh sr sx sy st sj w so la de ho
  · cases s0
    · have h : Rep.summary ⟨false, sb, sh, sr, sx, sy, st, sj⟩ so la de = (⟨so, 0, 0, 0, 0, la, de⟩, ⟨false, sb, sh, sr, sx, sy, st, sj⟩) := by unfold Rep.summary; rw [if_neg (by rw [ho]; simp), if_pos rfl]
      rw [h]
      exact Summary_off sb sh sr sx sy st sj w so la de ho
    · have h : Rep.summary ⟨true, sb, sh, sr, sx, sy, st, sj⟩ so la de = (⟨so, Rep.frac (sh - sb + 1 - sx) (sh - sb + 1 - sx - (sr - sy)), min (max (sh - sb + 1 - sr) (-8388608)) 8388607, sh % 4294967296, min (sj / 16) 4294967295, la, de⟩, ⟨true, sb, sh, sr, sh - sb + 1, sr, st, sj⟩) := by unfold Rep.summary; rw [if_neg (by rw [ho]; simp), if_neg (by simp)]
      rw [h]
      clear h
      by_cases hx : 0 < (sh - sb + 1 - sx)
      · by_cases hy : 0 < (sh - sb + 1 - sx - (sr - sy))
        · rw [show Rep.frac (sh - sb + 1 - sx) (sh - sb + 1 - sx - (sr - sy)) = min (256 * (sh - sb + 1 - sx - (sr - sy)) / (sh - sb + 1 - sx)) 255 from by unfold Rep.frac; rw [if_pos ⟨hx, hy⟩]]
          exact Summary_on_xy sb sh sr sx sy st sj w so la de ho hx hy _ rfl
        · rw [show Rep.frac (sh - sb + 1 - sx) (sh - sb + 1 - sx - (sr - sy)) = 0 from by unfold Rep.frac; rw [if_neg (by omega)]]
          exact Summary_on_y sb sh sr sx sy st sj w so la de ho hx (by omega)
      · rw [show Rep.frac (sh - sb + 1 - sx) (sh - sb + 1 - sx - (sr - sy)) = 0 from by unfold Rep.frac; rw [if_neg (by omega)]]
        exact Summary_on_x sb sh sr sx sy st sj w so la de ho (by omega)
theorem rSummary_any : Calls Try.prog 11 #[.agg #[.bool s0, .int .i64 sb, .int .i64 sh, .int .i64 sr, .int .i64 sx, .int .i64 sy, .int .i64 st, .int .i64 sj], .int .u32 so, .int .u32 la, .int .u32 de] w fun e w' => e = .returned (.tuple #[.agg (Rep.summary ⟨s0, sb, sh, sr, sx, sy, st, sj⟩ so la de).1.row, .agg (Rep.summary ⟨s0, sb, sh, sr, sx, sy, st, sj⟩ so la de).2.row]) ∧ Below w.heap.size w w' := by
  cases ho : Rep.okS ⟨s0, sb, sh, sr, sx, sy, st, sj⟩
  · have h : Rep.summary ⟨s0, sb, sh, sr, sx, sy, st, sj⟩ so la de = (Rep.Bk.zero, Rep.St.zero) := by unfold Rep.summary; rw [if_pos ho]
    rw [h]
    exact rSummary_bad s0 sb sh sr sx sy st sj w so la de ho
  · cases s0
    · have h : Rep.summary ⟨false, sb, sh, sr, sx, sy, st, sj⟩ so la de = (⟨so, 0, 0, 0, 0, la, de⟩, ⟨false, sb, sh, sr, sx, sy, st, sj⟩) := by unfold Rep.summary; rw [if_neg (by rw [ho]; simp), if_pos rfl]
      rw [h]
      exact rSummary_off sb sh sr sx sy st sj w so la de ho
    · have h : Rep.summary ⟨true, sb, sh, sr, sx, sy, st, sj⟩ so la de = (⟨so, Rep.frac (sh - sb + 1 - sx) (sh - sb + 1 - sx - (sr - sy)), min (max (sh - sb + 1 - sr) (-8388608)) 8388607, sh % 4294967296, min (sj / 16) 4294967295, la, de⟩, ⟨true, sb, sh, sr, sh - sb + 1, sr, st, sj⟩) := by unfold Rep.summary; rw [if_neg (by rw [ho]; simp), if_neg (by simp)]
      rw [h]
      clear h
      by_cases hx : 0 < (sh - sb + 1 - sx)
      · by_cases hy : 0 < (sh - sb + 1 - sx - (sr - sy))
        · rw [show Rep.frac (sh - sb + 1 - sx) (sh - sb + 1 - sx - (sr - sy)) = min (256 * (sh - sb + 1 - sx - (sr - sy)) / (sh - sb + 1 - sx)) 255 from by unfold Rep.frac; rw [if_pos ⟨hx, hy⟩]]
          by_cases l1 : sh - sb + 1 - sr < -8388608
          · rw [show min (max (sh - sb + 1 - sr) (-8388608)) 8388607 = -8388608 by omega]
            exact rSummary_on_xylo sb sh sr sx sy st sj w so la de ho l1 hx hy _ rfl
          · by_cases l2 : 8388607 < sh - sb + 1 - sr
            · rw [show min (max (sh - sb + 1 - sr) (-8388608)) 8388607 = 8388607 by omega]
              exact rSummary_on_xyhi sb sh sr sx sy st sj w so la de ho l2 hx hy _ rfl
            · rw [show min (max (sh - sb + 1 - sr) (-8388608)) 8388607 = sh - sb + 1 - sr by omega]
              exact rSummary_on_xymi sb sh sr sx sy st sj w so la de ho (by omega) (by omega) hx hy _ rfl
        · rw [show Rep.frac (sh - sb + 1 - sx) (sh - sb + 1 - sx - (sr - sy)) = 0 from by unfold Rep.frac; rw [if_neg (by omega)]]
          by_cases l1 : sh - sb + 1 - sr < -8388608
          · rw [show min (max (sh - sb + 1 - sr) (-8388608)) 8388607 = -8388608 by omega]
            exact rSummary_on_ylo sb sh sr sx sy st sj w so la de ho l1 hx (by omega)
          · by_cases l2 : 8388607 < sh - sb + 1 - sr
            · rw [show min (max (sh - sb + 1 - sr) (-8388608)) 8388607 = 8388607 by omega]
              exact rSummary_on_yhi sb sh sr sx sy st sj w so la de ho l2 hx (by omega)
            · rw [show min (max (sh - sb + 1 - sr) (-8388608)) 8388607 = sh - sb + 1 - sr by omega]
              exact rSummary_on_ymi sb sh sr sx sy st sj w so la de ho (by omega) (by omega) hx (by omega)
      · rw [show Rep.frac (sh - sb + 1 - sx) (sh - sb + 1 - sx - (sr - sy)) = 0 from by unfold Rep.frac; rw [if_neg (by omega)]]
        by_cases l1 : sh - sb + 1 - sr < -8388608
        · rw [show min (max (sh - sb + 1 - sr) (-8388608)) 8388607 = -8388608 by omega]
          exact rSummary_on_xlo sb sh sr sx sy st sj w so la de ho l1 (by omega)
        · by_cases l2 : 8388607 < sh - sb + 1 - sr
          · rw [show min (max (sh - sb + 1 - sr) (-8388608)) 8388607 = 8388607 by omega]
            exact rSummary_on_xhi sb sh sr sx sy st sj w so la de ho l2 (by omega)
          · rw [show min (max (sh - sb + 1 - sr) (-8388608)) 8388607 = sh - sb + 1 - sr by omega]
            exact rSummary_on_xmi sb sh sr sx sy st sj w so la de ho (by omega) (by omega) (by omega)
end
end Go.Proofs.Ythmcbmjjngolmaa
