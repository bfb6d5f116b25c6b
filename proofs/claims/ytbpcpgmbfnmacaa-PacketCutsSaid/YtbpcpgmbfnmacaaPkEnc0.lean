/- Layer 25: what Encode leaves. -/
import Derived.Test.YtbpcpgmbfnmacaaPkCheck
namespace Go.Proofs.Ytbpcpgmbfnmacaa
open Go.RowKit
set_option linter.unusedVariables false
set_option linter.unusedSimpArgs false
attribute [local go_sem ↓] run_min_plain run_max_plain
attribute [local go_sem] setCell_drewN alloc_drewN
def EncR (R : List Int × Int) (w : World) (e : Ending) (w' : World) : Prop :=
  ∃ (A : Option Addr) (c : Nat), e = .returned (.tuple #[.slice A R.1.length c, .int .u8 R.2]) ∧ IntsNew w.heap.size w' .u8 A R.1 ∧ Below w.heap.size w w'
/-- the same, and the slice has room for what it holds -/
def EncRC (R : List Int × Int) (w : World) (e : Ending) (w' : World) : Prop :=
  ∃ (A : Option Addr) (c : Nat), e = .returned (.tuple #[.slice A R.1.length c, .int .u8 R.2]) ∧ R.1.length ≤ c ∧ IntsNew w.heap.size w' .u8 A R.1 ∧ Below w.heap.size w w'
theorem EncRC.toR {R : List Int × Int} {w : World} {e : Ending} {w' : World} (h : EncRC R w e w') : EncR R w e w' := by
  obtain ⟨A, c, h1, _, h2, h3⟩ := h
  exact ⟨A, c, h1, h2, h3⟩
theorem Owns.cap {w : World} {base size n c : Nat} {e : TypeId} {A : Option Addr} {xs : List Value} (h : Owns w base e size A n c xs) : n ≤ c := by
  rcases h.2 with ⟨hv, hn⟩ | ⟨g', cap, cur, hv, _, _, hc, _⟩
  · omega
  · injection hv with _ _ h3
    omega
theorem Owns.lit (w : World) (base : Nat) (e : TypeId) (cs : List Value) (n : Nat) (hb : base ≤ w.heap.size) (hm : n ≤ maxLen) (hn : cs.length = n) : Owns (w.alloc (.cells cs.toArray e)) base e 1 (some ⟨w.heap.size, 0, none⟩) n n cs := by
  have := World.ownsRow_lit (base := base) (e := e) (size := 1) w cs.toArray n hb hm (by simpa using hn)
  simpa [Owns] using this
end Go.Proofs.Ytbpcpgmbfnmacaa
