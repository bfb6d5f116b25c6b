/- Layer 26: Decode of the program: a report. -/
import Derived.Test.YthmcbmjjngolmaaRepDecS
namespace Go.Proofs.Ythmcbmjjngolmaa
open Go.RowKit
set_option linter.unusedVariables false
set_option linter.unusedSimpArgs false
attribute [local go_sem] setCell_drewN alloc_drewN
theorem fld_mod (bs : List Int) (p : Nat) (hb : Within 0 255 bs) (hl : p + 4 ≤ bs.length) : fld bs p 4 % 4294967296 = fld bs p 4 ∧ IntKind.u32.wrap (fld bs p 4) = fld bs p 4 := by
  obtain ⟨h1, h2⟩ := fld_bd bs p 4 hb hl
  have h : fld bs p 4 % 4294967296 = fld bs p 4 := Int.emod_eq_of_lt h1 h2
  exact ⟨h, by rw [u32_wrap, h]⟩
theorem fld_mod1 (bs : List Int) (p : Nat) (hb : Within 0 255 bs) (hl : p + 1 ≤ bs.length) : fld bs p 1 % 256 = fld bs p 1 ∧ IntKind.u8.wrap (fld bs p 1) = fld bs p 1 := by
  obtain ⟨h1, h2⟩ := fld_bd bs p 1 hb hl
  have h : fld bs p 1 % 256 = fld bs p 1 := Int.emod_eq_of_lt h1 h2
  exact ⟨h, by rw [u8_wrap, h]⟩
theorem fld_mod3 (bs : List Int) (p : Nat) (hb : Within 0 255 bs) (hl : p + 3 ≤ bs.length) : wrap64 (fld bs p 3) = fld bs p 3 ∧ IntKind.i64.wrap (fld bs p 3) = fld bs p 3 ∧ 0 ≤ fld bs p 3 ∧ fld bs p 3 < 16777216 := by
  obtain ⟨h1, h2⟩ := fld_bd bs p 3 hb hl
  have h2' : fld bs p 3 < 16777216 := h2
  have h : wrap64 (fld bs p 3) = fld bs p 3 := IntWalk.wrap64_in _ ⟨by omega, by omega⟩
  refine ⟨h, ?_, h1, h2'⟩
  have e : fld bs p 3 % 2 ^ 64 = fld bs p 3 := Int.emod_eq_of_lt (by omega) (by omega)
  simp only [IntKind.wrap, IntKind.bits, IntKind.signed, e]
  rw [if_neg (by simp; omega)]
theorem info_bk : (Try.prog.info? 27).map (fun i => (i.zero, i.size, i.bytes)) = some (some (.agg #[.int .u32 0, .int .u8 0, .int .i64 0, .int .u32 0, .int .u32 0, .int .u32 0, .int .u32 0]), 7, 32) := by kernel_rfl
theorem blocks_step {α : Type} (f : Nat → α) (g : α → List Value) (k : Nat) : ((List.range (k + 1)).map f).flatMap g = ((List.range k).map f).flatMap g ++ g (f k) := by simp [List.range_succ]
theorem own_only {w w' : World} {base size n c g : Nat} {e : TypeId} {A : Option Addr} {xs : List Value} (h : Owns w base e size A n c xs) (ho : Only g w w') (hg : g < base) : Owns w' base e size A n c xs :=
  h.grown ho.1 (fun b e2 e3 => by injection e3 with e3; have := (h.block b e2).1; omega)
end Go.Proofs.Ythmcbmjjngolmaa
