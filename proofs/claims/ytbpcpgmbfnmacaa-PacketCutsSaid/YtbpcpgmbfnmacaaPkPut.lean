/- Layer 25: put of the program. -/
import Derived.Test.YtbpcpgmbfnmacaaPkVal
import Derived.Test.YtbpcpgmbfnmacaaPkSmall
namespace Go.Proofs.Ytbpcpgmbfnmacaa
open Go.RowKit
set_option linter.unusedVariables false
set_option linter.unusedSimpArgs false
attribute [local go_sem] setCell_drewN alloc_drewN
/-- what appending callees leave: the slice now reads as out -/
def PutR (base : Nat) (w : World) (A : Option Addr) (out : List Int) (e : Ending) (w' : World) : Prop :=
  ∃ (A' : Option Addr) (c' : Nat), e = .returned (.slice A' out.length c') ∧ Owns w' base 5 1 A' out.length c' (u8s out) ∧ Grow w A w' A'
section
variable (w : World) (base : Nat) (A : Option Addr) (c : Nat) (bs : List Int) (x : Int) (n : Nat)
set_option maxRecDepth 100000 in
set_option maxHeartbeats 1600000 in
theorem put_any (ho : Owns w base 5 1 A bs.length c (u8s bs)) (hbase : base ≤ w.heap.size) (hn : n ≤ 4) (x0 : 0 ≤ x) (x1 : x ≤ 4294967295) (hb : bs.length ≤ 100000) :
    Calls Try.prog 28 #[.slice A bs.length c, .int .u32 x, .int .i64 n] w (PutR base w A (bs ++ be n x)) := by
  have HO := Lib.hid ho
  have HW := Lib.hid hbase
  clear ho hbase
  go_enter Try.func28, Try.ntmps28
  go_wp2_with fail
  go_loopg [0, 2] n (fun gk s0 s2 wr => ∃ (r : Nat) (A' : Option Addr) (c' : Nat) (out pre : List Int), r = gk ∧ r ≤ n ∧ s2 = .int .i64 r ∧ s0 = .slice A' out.length c' ∧ Hid (out = bs ++ pre) ∧ Hid (be n x = pre ++ be r x) ∧ Hid (Owns wr base 5 1 A' out.length c' (u8s out)) ∧ Hid (Grow w A wr A'))
  case atStart => exact ⟨n, A, c, bs, [], rfl, Nat.le_refl _, rfl, rfl, Lib.hid (by simp), Lib.hid rfl, HO, Lib.hid (Grow.refl w A)⟩
  case round =>
    clear HO
    obtain ⟨r, A', c', out, pre, hr, hrn, rfl, rfl, HE, HP, HO, HG⟩ := hrel
    have hlo : out.length ≤ 200000 := by
      have h1 := HE.out
      have h2 := congrArg List.length HP.out
      rw [List.length_append, be_len, be_len] at h2
      rw [h1, List.length_append]; omega
    have hws := Nat.le_trans HW.out HG.out.size
    by_cases hr0 : r = 0
    · subst hr0
      have hneg : ((0 : Nat) : Int) ≤ 0 := by omega
      go_wp2_with fail
      go_ret
      have he : out = bs ++ be n x := by rw [HE.out, HP.out]; simp [be]
      have HE2 := Lib.hid he
      clear he
      exact ⟨A', c', by rw [HE2.out]; rfl, by rw [← HE2.out]; exact HO.out, HG.out⟩
    · obtain ⟨q, rfl⟩ : ∃ q, r = q + 1 := ⟨r - 1, by omega⟩
      have hq1 : ((q + 1 : Nat) : Int) - 1 = (q : Int) := by omega
      have hqp : (0 : Int) < ((q + 1 : Nat) : Int) := by omega
      have hqw : IntKind.i64.wrap (((q + 1 : Nat) : Int) - 1) = (q : Int) := by rw [hq1]; exact i64_small _ (by omega) (by omega)
      have hf := be_front q x x0
      have hpw := pow_bytes q
      have HF := Lib.hid hf
      have HPW := Lib.hid hpw
      have hq8 : (q : Int) < 4 := by omega
      have hq0 : (0 : Int) ≤ (q : Int) := by omega
      clear hf hpw
      go_wp2_with (at_builtin; go_loud (refine wpList_append_at rfl _ _ 25 rfl base 5 1 1 (.int .u8 0) Try.underlying25 info_u8 rfl (by decide) A' out.length c' (u8s out) rfl HO.out [.int .u8 _] rfl (by simp [Value.oneCell']) rfl (by unfold maxLen; omega) (by omega) hws ?_); intro A2 c2 w2 hown2 hg2 hat2)
      go_roundg (gk - 1)
      case measure => omega
      case rel =>
        refine ⟨q, A2, c2, out ++ [x / 256 ^ q % 256], pre ++ [x / 256 ^ q % 256], by omega, by omega, by go_num, by rw [List.length_append]; rfl, Lib.hid ?_, Lib.hid ?_, Lib.hid (own_len ?_), Lib.hid (HG.out.step hg2 hat2)⟩
        · rw [HE.out, List.append_assoc]
        · rw [HP.out, HF.out]; simp
        · rw [← HPW.out]
          rw [show gk - 1 = q by omega] at hown2
          exact hown2
end
end Go.Proofs.Ytbpcpgmbfnmacaa
