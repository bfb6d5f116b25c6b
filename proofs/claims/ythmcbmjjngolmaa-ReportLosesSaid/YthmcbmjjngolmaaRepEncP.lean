/- Layer 26: reports in plain words; put of numbers that have just been laid down. -/
import Derived.Test.YthmcbmjjngolmaaRepNum
import Derived.Test.YthmcbmjjngolmaaRepPlain
import Derived.Test.YthmcbmjjngolmaaOpenRows
namespace Go.Proofs.Ythmcbmjjngolmaa
open Go.RowKit
set_option linter.unusedVariables false
set_option linter.unusedSimpArgs false
theorem be_add : ∀ (n : Nat) (y m : Int), be n (y + 256 ^ n * m) = be n y
  | 0, _, _ => rfl
  | n + 1, y, m => by
    unfold be
    have h : y + 256 ^ (n + 1) * m = y + 256 * (256 ^ n * m) := by rw [Int.pow_succ, ← Int.mul_assoc, Int.mul_comm 256 (256 ^ n)]
    rw [h, Int.add_mul_ediv_left _ _ (by omega), be_add n, Int.add_mul_emod_self_left]
theorem be_wrap64 (n : Nat) (hn : n ≤ 8) (x : Int) : be n (x % 18446744073709551616) = be n x := by
  have h : x % 18446744073709551616 = x + 256 ^ n * (256 ^ (8 - n) * -(x / 18446744073709551616)) := by
    rw [← Int.mul_assoc, ← Int.pow_add, show n + (8 - n) = 8 by omega]
    have : (256 : Int) ^ 8 = 18446744073709551616 := by decide
    rw [this]; omega
  rw [h, be_add]
namespace Rep
/-- a report -/
structure Rpt where
  sender : Bool
  source : Int
  clock : Int
  time : Int
  packets : Int
  octets : Int
  blocks : List Bk
def Bk.cells (b : Bk) : List Value := [.int .u32 b.source, .int .u8 b.frac, .int .i64 b.lost, .int .u32 b.high, .int .u32 b.jit, .int .u32 b.last, .int .u32 b.delay]
def Bk.bytes (b : Bk) : List Int := be 4 b.source ++ be 1 b.frac ++ be 3 b.lost ++ (be 4 b.high ++ be 4 b.jit ++ be 4 b.last ++ be 4 b.delay)
def Bk.fit (b : Bk) : Prop := -8388608 ≤ b.lost ∧ b.lost ≤ 8388607
instance (b : Bk) : Decidable b.fit := by unfold Bk.fit; exact inferInstance
def sizeR (sender : Bool) (n : Nat) : Int := 8 + (n : Int) * 24 + if sender then 20 else 0
def Rpt.front (r : Rpt) : List Int := [128 + (r.blocks.length : Int), if r.sender then 200 else 201] ++ be 2 (sizeR r.sender r.blocks.length / 4 - 1) ++ be 4 r.source ++ (if r.sender then be 8 r.clock ++ (be 4 r.time ++ be 4 r.packets ++ be 4 r.octets) else [])
def Rpt.bytes (r : Rpt) : List Int := r.front ++ r.blocks.flatMap Bk.bytes
def Rpt.plain (r : Rpt) : Prop := r.clock = 0 ∧ r.time = 0 ∧ r.packets = 0 ∧ r.octets = 0
instance (r : Rpt) : Decidable r.plain := by unfold Rpt.plain; exact inferInstance
/-- the bytes of a report, and the error -/
def enc (r : Rpt) : List Int × Int := if 31 < r.blocks.length then ([], 4) else if ¬(∀ b ∈ r.blocks, b.fit) then ([], 3) else if r.sender = false ∧ ¬r.plain then ([], 2) else (r.bytes, 0)
/-- numbers in their ranges -/
def Bk.ok (b : Bk) : Prop := (0 ≤ b.source ∧ b.source ≤ 4294967295) ∧ (0 ≤ b.frac ∧ b.frac ≤ 255) ∧ (-9223372036854775808 ≤ b.lost ∧ b.lost ≤ 9223372036854775807) ∧ (0 ≤ b.high ∧ b.high ≤ 4294967295) ∧ (0 ≤ b.jit ∧ b.jit ≤ 4294967295) ∧ (0 ≤ b.last ∧ b.last ≤ 4294967295) ∧ 0 ≤ b.delay ∧ b.delay ≤ 4294967295
def Rpt.ok (r : Rpt) : Prop := (0 ≤ r.source ∧ r.source ≤ 4294967295) ∧ (0 ≤ r.clock ∧ r.clock ≤ 18446744073709551615) ∧ (0 ≤ r.time ∧ r.time ≤ 4294967295) ∧ (0 ≤ r.packets ∧ r.packets ≤ 4294967295) ∧ (0 ≤ r.octets ∧ r.octets ≤ 4294967295) ∧ ∀ b ∈ r.blocks, b.ok
end Rep
theorem own_type {w : World} {base n c g : Nat} {e t : TypeId} {A : Option Addr} {xs : List Value} {cs : Array Value} (h : Owns w base e 1 A n c xs) (hb : Blk w g t cs) (ht : t ≠ e) : some g ≠ ownB A := by
  intro he
  rcases h.2 with ⟨hv, _⟩ | ⟨g', cap, cur, hv, _, hh, _⟩
  · injection hv with hA _ _
    subst hA
    cases he
  · injection hv with hA _ _
    subst hA
    injection he with he
    subst he
    unfold Blk at hb
    rw [hb] at hh
    injection hh with hh
    injection hh with _ hh
    exact ht hh
/-- what put leaves, given numbers that have just been laid down in W -/
def PutL (w W : World) (out : List Int) (e : Ending) (w' : World) : Prop :=
  ∃ (A' : Option Addr) (c' : Nat), e = .returned (.slice A' out.length c') ∧ Owns w' w.heap.size 5 1 A' out.length c' (u8s out) ∧ Bel w w' ∧ (∀ (g : Nat) (t : TypeId) (cs : Array Value), t ≠ 5 → Blk W g t cs → Blk w' g t cs)
theorem put_lit (w W : World) (A : Option Addr) (c : Nat) (bs : List Int) (n : Nat) (k0 : Nat) (xs : List Int) (cs : List Value) (hcs : cs = xs.map (Value.int .u64)) (U : Bel w W) (HO : Owns W w.heap.size 5 1 A bs.length c (u8s bs)) (hn : n ≤ 8) (hx : Within 0 18446744073709551615 xs) (hl : xs.length ≤ 4) (hb : bs.length ≤ 100000) (hk0 : k0 = xs.length) (g0 : Nat) (hg0 : g0 = W.heap.size) :
    Calls Try.prog 31 #[.slice A bs.length c, .int .i64 n, .slice (some ⟨g0, 0, none⟩) k0 k0] (W.alloc (.cells cs.toArray 44)) (PutL w W (bs ++ xs.flatMap (be n))) := by
  subst hg0
  have hown := Owns.alloc HO (.cells cs.toArray 44)
  refine (put_any _ w.heap.size A c bs n _ k0 xs hown (Nat.le_trans U.size (by simp)) hn (IntsAt.new W 44 .u64 xs cs hcs) ?_ hx hl hb k0 hk0).mono ?_
  · intro b off e he
    injection e with e
    injection e with e1 e2
    subst e1
    have := (HO.block _ he.symm).2
    omega
  · rintro e w' ⟨A', c', rfl, ho, hG⟩
    refine ⟨A', c', rfl, ho, hG.bel hown (U.push _) (Nat.le_refl _), fun g t cs ht hB => ?_⟩
    exact hG.blk (hB.push _) (own_type hown (hB.push _) ht)
end Go.Proofs.Ythmcbmjjngolmaa
