/- Layer 27: what find, the methods of the two laws, Pack and Unpack return, for the program. -/
import Derived.Test.YtnkmpkbddpeplaaCmpRefs
import Derived.Test.YtnkmpkbddpeplaaMem
import Derived.Deep.RegionHeld3
import Derived.Deep.RegionWith
namespace Go.Proofs.Ytnkmpkbddpeplaa
open Go.RowKit
set_option linter.unusedVariables false

theorem find_mu (w : World) :
    Calls Try.prog 28 #[.int .u8 1] w fun e w' => e = .returned (.tuple #[.iface 46 (.agg #[]), .bool true]) ∧ w = w' := by
  go_enter Try.func28, Try.ntmps28
  go_wp2
  go_ret2
  exact ⟨rfl, rfl⟩
theorem find_a (w : World) :
    Calls Try.prog 28 #[.int .u8 2] w fun e w' => e = .returned (.tuple #[.iface 47 (.agg #[]), .bool true]) ∧ w = w' := by
  go_enter Try.func28, Try.ntmps28
  go_wp2
  go_ret2
  exact ⟨rfl, rfl⟩
theorem find_no (n : Int) (w : World) (h1 : (n == 1) = false) (h2 : (n == 2) = false) :
    Calls Try.prog 28 #[.int .u8 n] w fun e w' => e = .returned (.tuple #[.iface 46 (.agg #[]), .bool false]) ∧ w = w' := by
  go_enter Try.func28, Try.ntmps28
  go_wp2
  go_ret2
  exact ⟨rfl, rfl⟩
theorem info_u8 : (Try.prog.info? 5).map (fun i => (i.zero, i.size, i.bytes)) = some (some (.int .u8 0), 1, 1) := by kernel_rfl
theorem info_i16 : (Try.prog.info? 22).map (fun i => (i.zero, i.size, i.bytes)) = some (some (.int .i16 0), 1, 2) := by kernel_rfl

theorem mucode (x : Int) (w : World) (h0 : -32768 ≤ x) (h1 : x ≤ 32767) :
    Calls Try.prog 44 #[.agg #[], .int .i16 x] w fun e w' => e = .returned (.int .u8 (Cmp.muZ x)) ∧ w.alloc (.cells #[] 46) = w' := by
  skip
  go_enter Try.func44, Try.ntmps44
  go_wp2_with (go_at_call 11; refine (Mu_any _ _ (by omega) (by omega)).mono ?_; rintro e w' ⟨rfl, rfl⟩)
  go_ret
  exact ⟨rfl, rfl⟩
theorem nil_mucode (w : World) : (nilAhead 165 46 (.agg #[]) "dialtone/compand.code").run Try.prog w = .ok (some false) w := by kernel_rfl
theorem met_mucode (w : World) : (method 165 46 (.agg #[]) "dialtone/compand.code").run Try.prog w = .ok (44, .agg #[]) w := by kernel_rfl
set_option maxHeartbeats 400000 in
theorem Pack_mu (A : Option Addr) (zs : List Int) (cap : Nat) (w : World) (hA : IntsAt w w.heap.size .i16 A zs) (hz : Within (-32768) 32767 zs) (h8 : zs.length ≤ 8000) :
    Calls Try.prog 21 #[.int .u8 1, .slice A zs.length cap] w fun e w' => ∃ A' : Option Addr, e = .returned (.tuple #[.slice A' zs.length zs.length, .int .u8 0]) ∧
      IntsAt w' w'.heap.size .u8 A' (zs.map Cmp.muZ) ∧ Below w.heap.size w w' := by
  have hmk := run_make_row' (P := Try.prog) 32 5 (.int .u8 0) 1 Try.underlying32 info_u8 rfl .i64 .i64 zs.length (by omega) (by omega) w
  obtain ⟨W1, hW1⟩ : ∃ W1, W1 = w.alloc (.cells (madeCells #[.int .u8 0] zs.length) 5) := ⟨_, rfl⟩
  have hrow : W1.rowIs w.heap.size 5 zs.length (fun _ => .int .u8 0) := by rw [hW1]; exact World.rowIs_made w _ _ _
  have hbel : Below w.heap.size w W1 := by rw [hW1]; exact (Below.refl _ _).alloc (Nat.le_refl _) _
  rw [← hW1] at hmk
  clear hW1
  go_enter Try.func21, Try.ntmps21
  go_wp2_with (go_at_call 28; refine (find_mu _).mono ?_; rintro e w' ⟨rfl, rfl⟩)
  go_loopw [25] (fun i wr => ∃ k : Nat, k ≤ zs.length ∧ i = .int .i64 k ∧ wr.rowIs w.heap.size 5 zs.length (fun j => .int .u8 (if j < k then Cmp.muZ (zs.getD j 0) else 0)) ∧ Below w.heap.size w wr)
    (fun i _ => zs.length - (intOf i).toNat)
  case atStart => exact ⟨0, Nat.zero_le _, rfl, hrow.congr (by simp), hbel⟩
  case round =>
    obtain ⟨k, hk, rfl, hr, hb⟩ := hrel
    by_cases hlt : k < zs.length
    · obtain ⟨b, off, rfl, hbB, hcell⟩ := hA (by omega)
      have hzk := hz.at hlt
      have hck : wr.cell? ⟨b, off + k, none⟩ = some (.int .i16 (zs.getD k 0)) := (hb.cell (p := ⟨b, off + k, none⟩) hbB).trans (hcell k hlt)
      have hcr : wr.cell? ⟨w.heap.size, k, none⟩ = some (.int .u8 0) := by rw [hr.cell hlt]; simp
      have hfr := hr.frozen k
      have hrl := hr.lt
      have hn1 : b ≠ w.heap.size := by omega
      have hn2 : w.heap.size ≠ b := by omega
      have HR := Lib.hid hr
      have hbs := hb.size
      clear hr hcell hrow hbel hmk
      generalize hzz : zs.getD k 0 = z at hck hzk
      have HZ := Lib.hid hzz
      clear hzz
      obtain ⟨hz1, hz2⟩ := hzk
      have hi0 : (0 : Int) ≤ (k : Int) := by omega
      have hi1 : (k : Int) < (zs.length : Int) := by omega
      have hna := nil_mucode
      have hme := met_mucode
      go_wp2
      go_region_held3 (fun w' => w'.cell? ⟨b, off + k, none⟩ = some (.int .i16 z)) (go_keep)
        (first | (go_at_call 44; refine (mucode _ _ (by omega) (by omega)).mono ?_; rintro e w' ⟨rfl, rfl⟩) | fail)
      go_wp2
      go_roundw
      case rel =>
        refine ⟨k + 1, by omega, by go_num, ?_, ((hb.setCell (Nat.le_refl _) _).alloc (by simpa using hbs) _).drew⟩
        rw [← HZ.out]
        exact (rowIs_fill (g := fun j => Cmp.muZ (zs.getD j 0)) HR.out).alloc _
      case measure => simp [intOf]; omega
    · obtain rfl : k = zs.length := by omega
      have HR := Lib.hid hr
      clear hr hrow hbel hmk
      go_wp2
      go_ret2
      exact ⟨_, rfl, IntsAt.of_fill HR.out, hb⟩

theorem musample (x : Int) (w : World) (h0 : 0 ≤ x) (h1 : x ≤ 255) :
    Calls Try.prog 45 #[.agg #[], .int .u8 x] w fun e w' => e = .returned (.int .i16 (Cmp.fromMuZ x)) ∧ w.alloc (.cells #[] 46) = w' := by
  obtain ⟨n, rfl⟩ := Int.eq_ofNat_of_zero_le h0
  go_enter Try.func45, Try.ntmps45
  go_wp2_with (go_at_call 10; refine (FromMu_any _ _ (by omega)).mono ?_; rintro e w' ⟨rfl, rfl⟩)
  go_ret
  exact ⟨rfl, rfl⟩
theorem nil_musample (w : World) : (nilAhead 165 46 (.agg #[]) "dialtone/compand.sample").run Try.prog w = .ok (some false) w := by kernel_rfl
theorem met_musample (w : World) : (method 165 46 (.agg #[]) "dialtone/compand.sample").run Try.prog w = .ok (45, .agg #[]) w := by kernel_rfl
set_option maxHeartbeats 400000 in
theorem Unpack_mu (A : Option Addr) (zs : List Int) (cap : Nat) (w : World) (hA : IntsAt w w.heap.size .u8 A zs) (hz : Within (0) 255 zs) (h8 : zs.length ≤ 8000) :
    Calls Try.prog 23 #[.int .u8 1, .slice A zs.length cap] w fun e w' => ∃ A' : Option Addr, e = .returned (.tuple #[.slice A' zs.length zs.length, .int .u8 0]) ∧
      IntsAt w' w'.heap.size .i16 A' (zs.map Cmp.fromMuZ) ∧ Below w.heap.size w w' := by
  have hmk := run_make_row' (P := Try.prog) 31 22 (.int .i16 0) 2 Try.underlying31 info_i16 rfl .i64 .i64 zs.length (by omega) (by omega) w
  obtain ⟨W1, hW1⟩ : ∃ W1, W1 = w.alloc (.cells (madeCells #[.int .i16 0] zs.length) 22) := ⟨_, rfl⟩
  have hrow : W1.rowIs w.heap.size 22 zs.length (fun _ => .int .i16 0) := by rw [hW1]; exact World.rowIs_made w _ _ _
  have hbel : Below w.heap.size w W1 := by rw [hW1]; exact (Below.refl _ _).alloc (Nat.le_refl _) _
  rw [← hW1] at hmk
  clear hW1
  go_enter Try.func23, Try.ntmps23
  go_wp2_with (go_at_call 28; refine (find_mu _).mono ?_; rintro e w' ⟨rfl, rfl⟩)
  go_loopw [25] (fun i wr => ∃ k : Nat, k ≤ zs.length ∧ i = .int .i64 k ∧ wr.rowIs w.heap.size 22 zs.length (fun j => .int .i16 (if j < k then Cmp.fromMuZ (zs.getD j 0) else 0)) ∧ Below w.heap.size w wr)
    (fun i _ => zs.length - (intOf i).toNat)
  case atStart => exact ⟨0, Nat.zero_le _, rfl, hrow.congr (by simp), hbel⟩
  case round =>
    obtain ⟨k, hk, rfl, hr, hb⟩ := hrel
    by_cases hlt : k < zs.length
    · obtain ⟨b, off, rfl, hbB, hcell⟩ := hA (by omega)
      have hzk := hz.at hlt
      have hck : wr.cell? ⟨b, off + k, none⟩ = some (.int .u8 (zs.getD k 0)) := (hb.cell (p := ⟨b, off + k, none⟩) hbB).trans (hcell k hlt)
      have hcr : wr.cell? ⟨w.heap.size, k, none⟩ = some (.int .i16 0) := by rw [hr.cell hlt]; simp
      have hfr := hr.frozen k
      have hrl := hr.lt
      have hn1 : b ≠ w.heap.size := by omega
      have hn2 : w.heap.size ≠ b := by omega
      have HR := Lib.hid hr
      have hbs := hb.size
      clear hr hcell hrow hbel hmk
      generalize hzz : zs.getD k 0 = z at hck hzk
      have HZ := Lib.hid hzz
      clear hzz
      obtain ⟨hz1, hz2⟩ := hzk
      have hi0 : (0 : Int) ≤ (k : Int) := by omega
      have hi1 : (k : Int) < (zs.length : Int) := by omega
      have hna := nil_musample
      have hme := met_musample
      go_wp2
      go_region_held3 (fun w' => w'.cell? ⟨b, off + k, none⟩ = some (.int .u8 z)) (go_keep)
        (first | (go_at_call 45; refine (musample _ _ (by omega) (by omega)).mono ?_; rintro e w' ⟨rfl, rfl⟩) | fail)
      go_wp2
      go_roundw
      case rel =>
        refine ⟨k + 1, by omega, by go_num, ?_, ((hb.setCell (Nat.le_refl _) _).alloc (by simpa using hbs) _).drew⟩
        rw [← HZ.out]
        exact (rowIs_fill (g := fun j => Cmp.fromMuZ (zs.getD j 0)) HR.out).alloc _
      case measure => simp [intOf]; omega
    · obtain rfl : k = zs.length := by omega
      have HR := Lib.hid hr
      clear hr hrow hbel hmk
      go_wp2
      go_ret2
      exact ⟨_, rfl, IntsAt.of_fill HR.out, hb⟩

theorem acode (x : Int) (w : World) (h0 : -32768 ≤ x) (h1 : x ≤ 32767) :
    Calls Try.prog 46 #[.agg #[], .int .i16 x] w fun e w' => e = .returned (.int .u8 (Cmp.aZ x)) ∧ w.alloc (.cells #[] 47) = w' := by
  skip
  go_enter Try.func46, Try.ntmps46
  go_wp2_with (go_at_call 13; refine (A_any _ _ (by omega) (by omega)).mono ?_; rintro e w' ⟨rfl, rfl⟩)
  go_ret
  exact ⟨rfl, rfl⟩
theorem nil_acode (w : World) : (nilAhead 165 47 (.agg #[]) "dialtone/compand.code").run Try.prog w = .ok (some false) w := by kernel_rfl
theorem met_acode (w : World) : (method 165 47 (.agg #[]) "dialtone/compand.code").run Try.prog w = .ok (46, .agg #[]) w := by kernel_rfl
set_option maxHeartbeats 400000 in
theorem Pack_a (A : Option Addr) (zs : List Int) (cap : Nat) (w : World) (hA : IntsAt w w.heap.size .i16 A zs) (hz : Within (-32768) 32767 zs) (h8 : zs.length ≤ 8000) :
    Calls Try.prog 21 #[.int .u8 2, .slice A zs.length cap] w fun e w' => ∃ A' : Option Addr, e = .returned (.tuple #[.slice A' zs.length zs.length, .int .u8 0]) ∧
      IntsAt w' w'.heap.size .u8 A' (zs.map Cmp.aZ) ∧ Below w.heap.size w w' := by
  have hmk := run_make_row' (P := Try.prog) 32 5 (.int .u8 0) 1 Try.underlying32 info_u8 rfl .i64 .i64 zs.length (by omega) (by omega) w
  obtain ⟨W1, hW1⟩ : ∃ W1, W1 = w.alloc (.cells (madeCells #[.int .u8 0] zs.length) 5) := ⟨_, rfl⟩
  have hrow : W1.rowIs w.heap.size 5 zs.length (fun _ => .int .u8 0) := by rw [hW1]; exact World.rowIs_made w _ _ _
  have hbel : Below w.heap.size w W1 := by rw [hW1]; exact (Below.refl _ _).alloc (Nat.le_refl _) _
  rw [← hW1] at hmk
  clear hW1
  go_enter Try.func21, Try.ntmps21
  go_wp2_with (go_at_call 28; refine (find_a _).mono ?_; rintro e w' ⟨rfl, rfl⟩)
  go_loopw [25] (fun i wr => ∃ k : Nat, k ≤ zs.length ∧ i = .int .i64 k ∧ wr.rowIs w.heap.size 5 zs.length (fun j => .int .u8 (if j < k then Cmp.aZ (zs.getD j 0) else 0)) ∧ Below w.heap.size w wr)
    (fun i _ => zs.length - (intOf i).toNat)
  case atStart => exact ⟨0, Nat.zero_le _, rfl, hrow.congr (by simp), hbel⟩
  case round =>
    obtain ⟨k, hk, rfl, hr, hb⟩ := hrel
    by_cases hlt : k < zs.length
    · obtain ⟨b, off, rfl, hbB, hcell⟩ := hA (by omega)
      have hzk := hz.at hlt
      have hck : wr.cell? ⟨b, off + k, none⟩ = some (.int .i16 (zs.getD k 0)) := (hb.cell (p := ⟨b, off + k, none⟩) hbB).trans (hcell k hlt)
      have hcr : wr.cell? ⟨w.heap.size, k, none⟩ = some (.int .u8 0) := by rw [hr.cell hlt]; simp
      have hfr := hr.frozen k
      have hrl := hr.lt
      have hn1 : b ≠ w.heap.size := by omega
      have hn2 : w.heap.size ≠ b := by omega
      have HR := Lib.hid hr
      have hbs := hb.size
      clear hr hcell hrow hbel hmk
      generalize hzz : zs.getD k 0 = z at hck hzk
      have HZ := Lib.hid hzz
      clear hzz
      obtain ⟨hz1, hz2⟩ := hzk
      have hi0 : (0 : Int) ≤ (k : Int) := by omega
      have hi1 : (k : Int) < (zs.length : Int) := by omega
      have hna := nil_acode
      have hme := met_acode
      go_wp2
      go_region_held3 (fun w' => w'.cell? ⟨b, off + k, none⟩ = some (.int .i16 z)) (go_keep)
        (first | (go_at_call 46; refine (acode _ _ (by omega) (by omega)).mono ?_; rintro e w' ⟨rfl, rfl⟩) | fail)
      go_wp2
      go_roundw
      case rel =>
        refine ⟨k + 1, by omega, by go_num, ?_, ((hb.setCell (Nat.le_refl _) _).alloc (by simpa using hbs) _).drew⟩
        rw [← HZ.out]
        exact (rowIs_fill (g := fun j => Cmp.aZ (zs.getD j 0)) HR.out).alloc _
      case measure => simp [intOf]; omega
    · obtain rfl : k = zs.length := by omega
      have HR := Lib.hid hr
      clear hr hrow hbel hmk
      go_wp2
      go_ret2
      exact ⟨_, rfl, IntsAt.of_fill HR.out, hb⟩

theorem asample (x : Int) (w : World) (h0 : 0 ≤ x) (h1 : x ≤ 255) :
    Calls Try.prog 47 #[.agg #[], .int .u8 x] w fun e w' => e = .returned (.int .i16 (Cmp.fromAZ x)) ∧ w.alloc (.cells #[] 47) = w' := by
  obtain ⟨n, rfl⟩ := Int.eq_ofNat_of_zero_le h0
  go_enter Try.func47, Try.ntmps47
  go_wp2_with (go_at_call 12; refine (FromA_any _ _ (by omega)).mono ?_; rintro e w' ⟨rfl, rfl⟩)
  go_ret
  exact ⟨rfl, rfl⟩
theorem nil_asample (w : World) : (nilAhead 165 47 (.agg #[]) "dialtone/compand.sample").run Try.prog w = .ok (some false) w := by kernel_rfl
theorem met_asample (w : World) : (method 165 47 (.agg #[]) "dialtone/compand.sample").run Try.prog w = .ok (47, .agg #[]) w := by kernel_rfl
set_option maxHeartbeats 400000 in
theorem Unpack_a (A : Option Addr) (zs : List Int) (cap : Nat) (w : World) (hA : IntsAt w w.heap.size .u8 A zs) (hz : Within (0) 255 zs) (h8 : zs.length ≤ 8000) :
    Calls Try.prog 23 #[.int .u8 2, .slice A zs.length cap] w fun e w' => ∃ A' : Option Addr, e = .returned (.tuple #[.slice A' zs.length zs.length, .int .u8 0]) ∧
      IntsAt w' w'.heap.size .i16 A' (zs.map Cmp.fromAZ) ∧ Below w.heap.size w w' := by
  have hmk := run_make_row' (P := Try.prog) 31 22 (.int .i16 0) 2 Try.underlying31 info_i16 rfl .i64 .i64 zs.length (by omega) (by omega) w
  obtain ⟨W1, hW1⟩ : ∃ W1, W1 = w.alloc (.cells (madeCells #[.int .i16 0] zs.length) 22) := ⟨_, rfl⟩
  have hrow : W1.rowIs w.heap.size 22 zs.length (fun _ => .int .i16 0) := by rw [hW1]; exact World.rowIs_made w _ _ _
  have hbel : Below w.heap.size w W1 := by rw [hW1]; exact (Below.refl _ _).alloc (Nat.le_refl _) _
  rw [← hW1] at hmk
  clear hW1
  go_enter Try.func23, Try.ntmps23
  go_wp2_with (go_at_call 28; refine (find_a _).mono ?_; rintro e w' ⟨rfl, rfl⟩)
  go_loopw [25] (fun i wr => ∃ k : Nat, k ≤ zs.length ∧ i = .int .i64 k ∧ wr.rowIs w.heap.size 22 zs.length (fun j => .int .i16 (if j < k then Cmp.fromAZ (zs.getD j 0) else 0)) ∧ Below w.heap.size w wr)
    (fun i _ => zs.length - (intOf i).toNat)
  case atStart => exact ⟨0, Nat.zero_le _, rfl, hrow.congr (by simp), hbel⟩
  case round =>
    obtain ⟨k, hk, rfl, hr, hb⟩ := hrel
    by_cases hlt : k < zs.length
    · obtain ⟨b, off, rfl, hbB, hcell⟩ := hA (by omega)
      have hzk := hz.at hlt
      have hck : wr.cell? ⟨b, off + k, none⟩ = some (.int .u8 (zs.getD k 0)) := (hb.cell (p := ⟨b, off + k, none⟩) hbB).trans (hcell k hlt)
      have hcr : wr.cell? ⟨w.heap.size, k, none⟩ = some (.int .i16 0) := by rw [hr.cell hlt]; simp
      have hfr := hr.frozen k
      have hrl := hr.lt
      have hn1 : b ≠ w.heap.size := by omega
      have hn2 : w.heap.size ≠ b := by omega
      have HR := Lib.hid hr
      have hbs := hb.size
      clear hr hcell hrow hbel hmk
      generalize hzz : zs.getD k 0 = z at hck hzk
      have HZ := Lib.hid hzz
      clear hzz
      obtain ⟨hz1, hz2⟩ := hzk
      have hi0 : (0 : Int) ≤ (k : Int) := by omega
      have hi1 : (k : Int) < (zs.length : Int) := by omega
      have hna := nil_asample
      have hme := met_asample
      go_wp2
      go_region_held3 (fun w' => w'.cell? ⟨b, off + k, none⟩ = some (.int .u8 z)) (go_keep)
        (first | (go_at_call 47; refine (asample _ _ (by omega) (by omega)).mono ?_; rintro e w' ⟨rfl, rfl⟩) | fail)
      go_wp2
      go_roundw
      case rel =>
        refine ⟨k + 1, by omega, by go_num, ?_, ((hb.setCell (Nat.le_refl _) _).alloc (by simpa using hbs) _).drew⟩
        rw [← HZ.out]
        exact (rowIs_fill (g := fun j => Cmp.fromAZ (zs.getD j 0)) HR.out).alloc _
      case measure => simp [intOf]; omega
    · obtain rfl : k = zs.length := by omega
      have HR := Lib.hid hr
      clear hr hrow hbel hmk
      go_wp2
      go_ret2
      exact ⟨_, rfl, IntsAt.of_fill HR.out, hb⟩
end Go.Proofs.Ytnkmpkbddpeplaa
