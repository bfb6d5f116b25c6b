/- Layer 26: put of the program, number of the reference: bytes of numbers. -/
import Derived.Test.YthmcbmjjngolmaaGrow
import Derived.Test.YthmcbmjjngolmaaRes
import Derived.Deep.LoopGhost
import Derived.StillTailTactics
namespace Go.Proofs.Ythmcbmjjngolmaa
open Go.RowKit
set_option linter.unusedVariables false
set_option linter.unusedSimpArgs false
attribute [local go_sem] setCell_drewN alloc_drewN
theorem info_u8 : (Try.prog.info? 5).map (fun i => (i.zero, i.size, i.bytes)) = some (some (.int .u8 0), 1, 1) := by kernel_rfl
def u8s (l : List Int) : List Value := l.map (Value.int .u8)
theorem u8s_app (a b : List Int) : u8s (a ++ b) = u8s a ++ u8s b := List.map_append
/-- what appending callees leave: the slice now reads as out -/
def PutR (base : Nat) (w : World) (A : Option Addr) (out : List Int) (e : Ending) (w' : World) : Prop :=
  ∃ (A' : Option Addr) (c' : Nat), e = .returned (.slice A' out.length c') ∧ Owns w' base 5 1 A' out.length c' (u8s out) ∧ Grow w A w' A'
theorem flat_take (f : Int → List Int) (xs : List Int) (k : Nat) (h : k < xs.length) : (xs.take (k + 1)).flatMap f = (xs.take k).flatMap f ++ f (xs.getD k 0) := by
  rw [List.take_succ_eq_append_getElem h, List.flatMap_append, List.getD_eq_getElem?_getD, List.getElem?_eq_getElem h]
  simp
theorem pow_bytes (r : Nat) : (2 : Int) ^ (8 * r) = 256 ^ r := by
  rw [Int.pow_mul]; rfl
theorem own_len {w : World} {base c : Nat} {A : Option Addr} {a : List Int} {b : Int} {e : TypeId} (h : Owns w base e 1 A (a.length + 1) c (u8s a ++ [.int .u8 b])) : Owns w base e 1 A (a ++ [b]).length c (u8s (a ++ [b])) := by
  rw [List.length_append, u8s_app]
  exact h
section
variable (w : World) (base : Nat) (A : Option Addr) (c : Nat) (bs : List Int) (n : Nat) (N : Option Addr) (cN : Nat) (xs : List Int)
set_option maxRecDepth 100000 in
set_option maxHeartbeats 1600000 in
theorem put_any (ho : Owns w base 5 1 A bs.length c (u8s bs)) (hbase : base ≤ w.heap.size) (hn : n ≤ 8) (hN : IntsAt w w.heap.size .u64 N xs) (hd : ∀ b off, N = some ⟨b, off, none⟩ → some b ≠ ownB A) (hx : Within 0 18446744073709551615 xs) (hl : xs.length ≤ 4) (hb : bs.length ≤ 100000) (k0 : Nat) (hk0 : k0 = xs.length) :
    Calls Try.prog 31 #[.slice A bs.length c, .int .i64 n, .slice N k0 cN] w (PutR base w A (bs ++ xs.flatMap (be n))) := by
  subst hk0
  have HO := Lib.hid ho
  have HN := Lib.hid hN
  have HD := Lib.hid hd
  have HX := Lib.hid hx
  have HW := Lib.hid hbase
  clear ho hN hd hx hbase
  go_enter Try.func31, Try.ntmps31
  go_wp2_with fail
  go_loopg [0, 12] xs.length (fun gk s0 s12 wr => ∃ (k : Nat) (A' : Option Addr) (c' : Nat) (out : List Int), gk + k = xs.length ∧ s12 = .int .i64 k ∧ s0 = .slice A' out.length c' ∧ Hid (out = bs ++ (xs.take k).flatMap (be n)) ∧ Hid (out.length ≤ bs.length + 8 * k) ∧ Hid (Owns wr base 5 1 A' out.length c' (u8s out)) ∧ Hid (Grow w A wr A'))
  case atStart => exact ⟨0, A, c, bs, rfl, rfl, rfl, Lib.hid (by simp), Lib.hid (by omega), HO, Lib.hid (Grow.refl w A)⟩
  case round =>
    clear HO
    obtain ⟨k, A', c', out, hg, rfl, rfl, HE, HL, HO, HG⟩ := hrel
    by_cases hlt : k < xs.length
    · obtain ⟨b, off, rfl, hbB, hcell⟩ := HN.out (by omega)
      have hc : wr.cell? ⟨b, off + k, none⟩ = some (.int .u64 (xs.getD k 0)) := HG.out.cell (hcell k hlt) (HD.out b off rfl)
      obtain ⟨x0, x1⟩ := HX.out.at hlt
      have hst := flat_take (be n) xs k hlt
      generalize xs.getD k 0 = x at *
      have HST := Lib.hid hst
      have HX1 := Lib.hid x1
      clear hcell hst x1
      have hi0 : (0 : Int) ≤ (k : Int) := by omega
      have hi1 : (k : Int) < (xs.length : Int) := by omega
      have hn0 : (n : Int) ≤ 8 := by omega
      go_wp2_with fail
      obtain ⟨g0, rfl⟩ : ∃ g0, g0 = gk := ⟨_, rfl⟩
      go_loopg [0, 9] n (fun gk s0 s9 wr => ∃ (r : Nat) (A' : Option Addr) (c' : Nat) (out' pre : List Int), r = gk ∧ r ≤ n ∧ s9 = .int .i64 ((r : Int) - 1) ∧ s0 = .slice A' out'.length c' ∧ Hid (out' = out ++ pre) ∧ Hid (be n x = pre ++ be r x) ∧ Hid (Owns wr base 5 1 A' out'.length c' (u8s out')) ∧ Hid (Grow w A wr A'))
      case atStart => exact ⟨n, A', c', out, [], rfl, Nat.le_refl _, rfl, rfl, Lib.hid (by simp), Lib.hid rfl, HO, HG⟩
      case round =>
        clear HO HG hc
        obtain ⟨r, A', c', out', pre, hr, hrn, rfl, rfl, HE', HP, HO, HG⟩ := hrel
        have hlo : out'.length ≤ out.length + 8 := by
          have h1 := HE'.out
          have h2 := congrArg List.length HP.out
          rw [List.length_append, be_len, be_len] at h2
          rw [h1, List.length_append]; omega
        have hlo2 : out'.length ≤ 200000 := by have := HL.out; omega
        clear hlo
        have hws := Nat.le_trans HW.out HG.out.size
        by_cases hr0 : r = 0
        · subst hr0
          have hneg : ((0 : Nat) : Int) - 1 < 0 := by omega
          go_wp2_with fail
          go_roundg (g0 - 1)
          case measure => omega
          case rel =>
            refine ⟨k + 1, A', c', out', by omega, by go_num, rfl, Lib.hid ?_, Lib.hid ?_, HO, HG⟩
            · rw [HE'.out, HE.out, HST.out, HP.out]; simp [be]
            · have h1 := HE'.out
              have h2 := congrArg List.length HP.out
              rw [List.length_append, be_len, be_len] at h2
              have := HL.out
              rw [h1, List.length_append]; omega
        · obtain ⟨q, rfl⟩ : ∃ q, r = q + 1 := ⟨r - 1, by omega⟩
          have hq1 : ((q + 1 : Nat) : Int) - 1 = (q : Int) := by omega
          rw [hq1]
          have hf := be_front q x x0
          have hpw := pow_bytes q
          have HF := Lib.hid hf
          have HPW := Lib.hid hpw
          have hq8 : (q : Int) < 8 := by omega
          have hq0 : (0 : Int) ≤ (q : Int) := by omega
          have hxx := HX1.out
          clear hq1 hf hpw
          go_wp2_with (at_builtin; go_loud (refine wpList_append_at rfl _ _ 40 rfl base 5 1 1 (.int .u8 0) Try.underlying40 info_u8 rfl (by decide) A' out'.length c' (u8s out') rfl HO.out [.int .u8 _] rfl (by simp [Value.oneCell']) rfl (by unfold maxLen; omega) (by omega) hws ?_); intro A2 c2 w2 hown2 hg2 hat2)
          go_roundg (gk - 1)
          case measure => omega
          case rel =>
            refine ⟨q, A2, c2, out' ++ [x / 256 ^ q % 256], pre ++ [x / 256 ^ q % 256], by omega, by omega, rfl, by rw [List.length_append]; rfl, Lib.hid ?_, Lib.hid ?_, Lib.hid (own_len ?_), Lib.hid (HG.out.step hg2 hat2)⟩
            · rw [HE'.out, List.append_assoc]
            · rw [HP.out, HF.out]; simp
            · rw [← HPW.out]
              exact hown2
    · obtain rfl : k = xs.length := by omega
      have hi1 : (xs.length : Int) ≤ (xs.length : Int) := Int.le_refl _
      have he := HE.out
      rw [List.take_length] at he
      have HE2 := Lib.hid he
      clear he
      go_wp2_with fail
      go_ret
      exact ⟨A', c', by rw [HE2.out]; rfl, by rw [← HE2.out]; exact HO.out, HG.out⟩
end
end Go.Proofs.Ythmcbmjjngolmaa
