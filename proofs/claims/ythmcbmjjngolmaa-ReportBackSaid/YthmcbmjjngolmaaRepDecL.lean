/- Layer 26: how much decoding gives. -/
import Derived.Test.YthmcbmjjngolmaaRepDecAll
namespace Go.Proofs.Ythmcbmjjngolmaa
open Go.RowKit
set_option linter.unusedVariables false
set_option linter.unusedSimpArgs false
namespace Rep
theorem dec_blocks (bs : List Int) (hz : Within 0 255 bs) : (dec bs).1.blocks.length ≤ 31 := by
  unfold dec
  split
  · simp [Rpt.zero]
  split
  · simp [Rpt.zero]
  split
  · simp [Rpt.zero]
  split
  · simp [Rpt.zero]
  split
  · simp [Rpt.zero]
  · simp only [Rpt.of, List.length_map, List.length_range]
    omega
theorem decAll_len : ∀ (f : Nat) (bs : List Int), Within 0 255 bs → ∀ (i : Nat) (out : List Rpt), (∀ r ∈ out, r.blocks.length ≤ 31) → (decAll f bs i out).1.length ≤ out.length + (bs.length - i) ∧ ∀ r ∈ (decAll f bs i out).1, r.blocks.length ≤ 31
  | 0, bs, hz, i, out, ho => by simp [decAll]
  | f + 1, bs, hz, i, out, ho => by
    unfold decAll
    by_cases h : bs.length ≤ i
    · rw [if_pos h]
      exact ⟨by simp, ho⟩
    rw [if_neg h]
    have hf := dec_facts (bs.drop i) (hz.drop i)
    have hb := dec_blocks (bs.drop i) (hz.drop i)
    by_cases he : (dec (bs.drop i)).2.2 = 0
    · rw [if_pos he]
      have h8 := hf.2.2.2.2 he
      have ih := decAll_len f bs hz (i + (dec (bs.drop i)).2.1.toNat) (out ++ [(dec (bs.drop i)).1]) (fun r hr => by
        rcases List.mem_append.1 hr with hr | hr
        · exact ho r hr
        · rw [List.mem_singleton.1 hr]; exact hb)
      refine ⟨?_, ih.2⟩
      have := ih.1
      simp only [List.length_append, List.length_cons, List.length_nil] at this
      omega
    · rw [if_neg he]
      exact ⟨by simp, fun r hr => by cases hr⟩
end Rep
end Go.Proofs.Ythmcbmjjngolmaa
