/- Numbers and bytes, in memory and in plain words (from chapter 26). -/
import Derived.Test.YtbpcpgmbfnmacaaGrow
import Derived.Test.YtbpcpgmbfnmacaaRes
import Derived.Deep.LoopGhost
namespace Go.Proofs.Ytbpcpgmbfnmacaa
open Go.RowKit
set_option linter.unusedVariables false
set_option linter.unusedSimpArgs false
theorem info_u8 : (Try.prog.info? 5).map (fun i => (i.zero, i.size, i.bytes)) = some (some (.int .u8 0), 1, 1) := by kernel_rfl
def u8s (l : List Int) : List Value := l.map (Value.int .u8)
theorem u8s_app (a b : List Int) : u8s (a ++ b) = u8s a ++ u8s b := List.map_append
theorem pow_bytes (r : Nat) : (2 : Int) ^ (8 * r) = 256 ^ r := by
  rw [Int.pow_mul]; rfl
theorem own_len {w : World} {base c : Nat} {A : Option Addr} {a : List Int} {b : Int} {e : TypeId} (h : Owns w base e 1 A (a.length + 1) c (u8s a ++ [.int .u8 b])) : Owns w base e 1 A (a ++ [b]).length c (u8s (a ++ [b])) := by
  rw [List.length_append, u8s_app]
  exact h
/-- the number that bytes are -/
def val (l : List Int) : Int := l.foldl (fun n b => 256 * n + b) 0
theorem val_snoc (l : List Int) (b : Int) : val (l ++ [b]) = 256 * val l + b := by
  unfold val
  rw [List.foldl_append]; rfl
theorem val_bd : ∀ (n : Nat) (l : List Int), l.length = n → Within 0 255 l → 0 ≤ val l ∧ val l < 256 ^ n
  | 0, l, h, _ => by
    obtain rfl := List.eq_nil_of_length_eq_zero h
    decide
  | n + 1, l, h, hb => by
    obtain ⟨a, b, rfl⟩ : ∃ a b, l = a ++ [b] := ⟨l.dropLast, l.getLast (by intro e; rw [e] at h; simp at h), (List.dropLast_concat_getLast _).symm⟩
    have ha : a.length = n := by simpa using h
    have h1 := val_bd n a ha (fun z hz => hb z (List.mem_append_left _ hz))
    have h2 := hb b (List.mem_append_right _ (List.mem_singleton.2 rfl))
    rw [val_snoc, Int.pow_succ]
    omega
theorem val_be : ∀ (n : Nat) (x : Int), val (be n x) = x % 256 ^ n
  | 0, x => by simp [be, val]
  | n + 1, x => by
    unfold be
    rw [val_snoc, val_be n, Int.pow_succ]
    have hp : (0 : Int) < 256 ^ n := Int.pow_pos (by omega)
    have h1 := Int.emod_add_mul_ediv (x / 256) (256 ^ n)
    have h2 := Int.emod_nonneg (x / 256) (b := 256 ^ n) (by omega)
    have h3 := Int.emod_lt_of_pos (x / 256) hp
    have hx : x = (256 * (x / 256 % 256 ^ n) + x % 256) + 256 ^ n * 256 * (x / 256 / 256 ^ n) := by
      have e : 256 ^ n * 256 * (x / 256 / 256 ^ n) = 256 * (256 ^ n * (x / 256 / 256 ^ n)) := by
        rw [Int.mul_comm (256 ^ n) 256, Int.mul_assoc]
      rw [e]
      omega
    generalize x / 256 % 256 ^ n = q at *
    generalize x / 256 / 256 ^ n = m at *
    have hr : 0 ≤ x % 256 ∧ x % 256 < 256 := by omega
    generalize x % 256 = r at *
    rw [hx, Int.add_mul_emod_self_left, Int.emod_eq_of_lt (by omega) (by omega)]
/-- the k bytes from i on, as a number -/
def fld (bs : List Int) (i k : Nat) : Int := val ((bs.drop i).take k)
theorem be_add : ∀ (n : Nat) (y m : Int), be n (y + 256 ^ n * m) = be n y
  | 0, _, _ => rfl
  | n + 1, y, m => by
    unfold be
    have h : y + 256 ^ (n + 1) * m = y + 256 * (256 ^ n * m) := by rw [Int.pow_succ, ← Int.mul_assoc, Int.mul_comm 256 (256 ^ n)]
    rw [h, Int.add_mul_ediv_left _ _ (by omega), be_add n, Int.add_mul_emod_self_left]
theorem val_take (bs : List Int) (k : Nat) (h : k < bs.length) : val (bs.take (k + 1)) = 256 * val (bs.take k) + bs.getD k 0 := by
  rw [List.take_succ_eq_append_getElem h, val_snoc, List.getD_eq_getElem?_getD, List.getElem?_eq_getElem h]; rfl
theorem val_small (bs : List Int) (h : bs.length ≤ 8) (hb : Within 0 255 bs) (k : Nat) (hk : k < 8) : 0 ≤ val (bs.take k) ∧ val (bs.take k) ≤ 72057594037927935 := by
  obtain ⟨h1, h2⟩ := val_bd _ (bs.take k) rfl (hb.take k)
  have hl : (bs.take k).length ≤ 7 := by simp; omega
  generalize (bs.take k).length = m at *
  have h3 : (256 : Int) ^ m ≤ 72057594037927936 := by
    have : ∀ i : Fin 8, (256 : Int) ^ i.val ≤ 72057594037927936 := by decide
    exact this ⟨m, by omega⟩
  omega
theorem fld_take (bs : List Int) (p k : Nat) (h : p + k < bs.length) : fld bs p (k + 1) = 256 * fld bs p k + bs.getD (p + k) 0 := by
  unfold fld
  have hk : k < (bs.drop p).length := by simp; omega
  rw [val_take _ _ hk]
  congr 1
  simp [List.getD_eq_getElem?_getD]
theorem fld_bd (bs : List Int) (p k : Nat) (hb : Within 0 255 bs) (h : p + k ≤ bs.length) : 0 ≤ fld bs p k ∧ fld bs p k < 256 ^ k := by
  unfold fld
  exact val_bd k _ (by simp; omega) ((hb.drop p).take k)
theorem fld_small (bs : List Int) (p k : Nat) (hb : Within 0 255 bs) (h : p + k ≤ bs.length) (hk : k < 8) : 0 ≤ fld bs p k ∧ fld bs p k ≤ 72057594037927935 := by
  obtain ⟨h1, h2⟩ := fld_bd bs p k hb h
  have h3 : (256 : Int) ^ k ≤ 72057594037927936 := by
    have : ∀ i : Fin 8, (256 : Int) ^ i.val ≤ 72057594037927936 := by decide
    exact this ⟨k, hk⟩
  omega
theorem fld_app (a b c : List Int) (i k : Nat) (h : a.length = i) (hb : b.length = k) : fld (a ++ (b ++ c)) i k = val b := by
  subst h hb
  unfold fld
  rw [List.drop_left, List.take_left]
theorem fld_be (a c : List Int) (i k : Nat) (x : Int) (h : a.length = i) : fld (a ++ (be k x ++ c)) i k = x % 256 ^ k := by
  rw [fld_app a (be k x) c i k h (be_len k x), val_be]
theorem be_val : ∀ (n : Nat) (l : List Int), l.length = n → Within 0 255 l → be n (val l) = l
  | 0, l, h, _ => by
    obtain rfl := List.eq_nil_of_length_eq_zero h
    rfl
  | n + 1, l, h, hb => by
    obtain ⟨a, b, rfl⟩ : ∃ a b, l = a ++ [b] := ⟨l.dropLast, l.getLast (by intro e; rw [e] at h; simp at h), (List.dropLast_concat_getLast _).symm⟩
    have ha : a.length = n := by simpa using h
    have h1 := be_val n a ha (fun z hz => hb z (List.mem_append_left _ hz))
    have h2 := hb b (List.mem_append_right _ (List.mem_singleton.2 rfl))
    rw [val_snoc]
    unfold be
    have e1 : (256 * val a + b) / 256 = val a := by omega
    have e2 : (256 * val a + b) % 256 = b := by omega
    rw [e1, e2, h1]
theorem be_fld (bs : List Int) (hz : Within 0 255 bs) (i k : Nat) (h : i + k ≤ bs.length) : be k (fld bs i k) = (bs.drop i).take k := by
  unfold fld
  exact be_val k _ (by simp; omega) ((hz.drop i).take k)
theorem cut_join (bs : List Int) (i j k : Nat) : (bs.drop i).take j ++ (bs.drop (i + j)).take k = (bs.drop i).take (j + k) := by
  rw [List.take_add, List.drop_drop]
theorem own_type {w : World} {base n c g : Nat} {e t : TypeId} {A : Option Addr} {xs : List Value} {cs : Array Value} (h : Owns w base e 1 A n c xs) (hb : Blk w g t cs) (ht : t ≠ e) : some g ≠ ownB A := by
  intro he
  rcases h.2 with ⟨hv, _⟩ | ⟨g', cap, cur, hv, _, hh, _⟩
  · injection hv with hA _ _
    subst hA
    cases he
  · injection hv with hA _ _
    subst hA
    injection he with he
    subst he
    unfold Blk at hb
    rw [hb] at hh
    injection hh with hh
    injection hh with _ hh
    exact ht hh
theorem own_app {w : World} {base c n : Nat} {A : Option Addr} {a : List Int} {x : Int} {e : TypeId} (h : Owns w base e 1 A (a.length + n) c (u8s a ++ (be n x).map (Value.int .u8))) : Owns w base e 1 A (a ++ be n x).length c (u8s (a ++ be n x)) := by
  rw [List.length_append, u8s_app, be_len]
  exact h
theorem own_list {w : World} {base c m : Nat} {A : Option Addr} {a x : List Int} {e : TypeId} (h : Owns w base e 1 A m c (u8s a ++ x.map (Value.int .u8))) (hm : m = (a ++ x).length) : Owns w base e 1 A (a ++ x).length c (u8s (a ++ x)) := by
  subst hm
  rw [u8s_app]
  exact h
theorem IntsAt.sub {w : World} {B : Nat} {k : IntKind} {b off : Nat} {zs : List Int} (h : IntsAt w B k (some ⟨b, off, none⟩) zs) (i m : Nat) (hi : i + m ≤ zs.length) : IntsAt w B k (some ⟨b, off + i, none⟩) ((zs.drop i).take m) := fun h0 => by
  have hm : 0 < m := by simp at h0; omega
  obtain ⟨b', off', e, hb, hc⟩ := h (by omega)
  injection e with e
  injection e with e1 e2
  subst e1 e2
  refine ⟨b, off + i, rfl, hb, fun j hj => ?_⟩
  have hj' : j < m := by simp at hj; omega
  rw [Nat.add_assoc, hc (i + j) (by omega)]
  simp [List.getD_eq_getElem?_getD, hj']
theorem fld_one (bs : List Int) (i : Nat) (h : i < bs.length) : fld bs i 1 = bs.getD i 0 := by
  have := fld_take bs i 0 (by omega)
  rw [this]
  simp [fld, val]
theorem fld_two (bs : List Int) (i : Nat) (h : i + 1 < bs.length) : fld bs i 2 = 256 * bs.getD i 0 + bs.getD (i + 1) 0 := by
  rw [fld_take bs i 1 h, fld_one bs i (by omega)]
end Go.Proofs.Ytbpcpgmbfnmacaa
