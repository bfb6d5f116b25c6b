/- Layer 32: what decoders make is new (Unpack of the two laws, Noise, Unpack of delta). -/
import Derived.Test.YtahbecinkciahaaGreatSs9Q
import Derived.Test.YtahbecinkciahaaGreatJtPutG1Q
import Derived.Deep.RegionHeld3
import Derived.Deep.RegionWith
import Derived.Test.YtahbecinkciahaaGreatJtCopyQ
import Derived.RegionTactic
import Derived.ChangeAlike
import Derived.Test.YtahbecinkciahaaGreatJtMeas2Q
import Derived.StillTailTactics
set_option linter.unusedVariables false
set_option linter.unusedSimpArgs false
set_option maxRecDepth 100000
set_option maxHeartbeats 12800000
namespace Go.Proofs.YtahbecinkciahaaGreat
open Go.RowKit
section
theorem znb (A : Option Addr) (zs : List Int) (cap : Nat) (w : World) (hA : IntsAt w w.heap.size .u8 A zs) (hz : Within (0) 255 zs) (h8 : zs.length ≤ 8000) :
 Calls Tryz.prog 139 #[.int .u8 1, .slice A zs.length cap] w fun e w' => ∃ A' : Option Addr, e = .returned (.tuple #[.slice A' zs.length zs.length, .int .u8 0]) ∧
  IntsNew w.heap.size w' .i16 A' (zs.map Cmp.fromMuZ) ∧ Below w.heap.size w w' := by
 have hmk := run_make_row' (P := Tryz.prog) 66 93 (.int .i16 0) 2 Tryz.underlying66 zha rfl .i64 .i64 zs.length (by omega) (by omega) w
 obtain ⟨W1, hW1⟩ : ∃ W1, W1 = w.alloc (.cells (madeCells #[.int .i16 0] zs.length) 93) := ⟨_, rfl⟩
 have hrow : W1.rowIs w.heap.size 93 zs.length (fun _ => .int .i16 0) := by rw [hW1]; exact World.rowIs_made w _ _ _
 have qb : Below w.heap.size w W1 := by rw [hW1]; exact (Below.refl _ _).alloc (Nat.le_refl _) _
 rw [← hW1] at hmk
 clear hW1
 go_enter Tryz.func139, Tryz.ntmps139
 go_wp2_with (go_at_call 161; refine (zoe _).mono ?_; rintro e w' ⟨rfl, rfl⟩)
 go_loopw [25] (fun i wr => ∃ k : Nat, k ≤ zs.length ∧ i = .int .i64 k ∧ wr.rowIs w.heap.size 93 zs.length (fun j => .int .i16 (if j < k then Cmp.fromMuZ (zs.getD j 0) else 0)) ∧ Below w.heap.size w wr)
  (fun i _ => zs.length - (intOf i).toNat)
 case atStart => exact ⟨0, Nat.zero_le _, rfl, hrow.congr (by simp), qb⟩
 case round =>
  obtain ⟨k, hk, rfl, hr, hb⟩ := hrel
  by_cases hlt : k < zs.length
  · obtain ⟨b, off, rfl, hbB, qc⟩ := hA (by omega)
    have hzk := hz.at hlt
    have hck : wr.cell? ⟨b, off + k, none⟩ = some (.int .u8 (zs.getD k 0)) := (hb.cell (p := ⟨b, off + k, none⟩) hbB).trans (qc k hlt)
    have hcr : wr.cell? ⟨w.heap.size, k, none⟩ = some (.int .i16 0) := by rw [hr.cell hlt]; simp
    have hfr := hr.frozen k
    have hrl := hr.lt
    have hn1 : b ≠ w.heap.size := by omega
    have hn2 : w.heap.size ≠ b := by omega
    have HR := H9 hr
    have hbs := hb.size
    clear hr qc hrow qb hmk
    generalize hzz : zs.getD k 0 = z at hck hzk
    have HZ := H9 hzz
    clear hzz
    obtain ⟨hz1, hz2⟩ := hzk
    have hi0 : (0 : Int) ≤ (k : Int) := by omega
    have hi1 : (k : Int) < (zs.length : Int) := by omega
    have hna := zhu
    have hme := zhv
    go_wp2
    go_region_held3 (fun w' => w'.cell? ⟨b, off + k, none⟩ = some (.int .u8 z)) (go_keep)
     (first | (go_at_call 183; refine (zqh _ _ (by omega) (by omega)).mono ?_; rintro e w' ⟨rfl, rfl⟩) | fail)
    go_wp2
    go_roundw
    case rel =>
     refine ⟨k + 1, by omega, by go_num, ?_, ((hb.setCell (Nat.le_refl _) _).alloc (by simpa using hbs) _).drew⟩
     rw [← HZ.out]
     exact (zbx (g := fun j => Cmp.fromMuZ (zs.getD j 0)) HR.out).alloc _
    case measure => simp [intOf]; omega
  · obtain rfl : k = zs.length := by omega
    have HR := H9 hr
    clear hr hrow qb hmk
    go_wp2
    go_ret2
    exact ⟨_, rfl, ⟨IntsAt.of_fill HR.out, fun _ b' o' e => by cases e; exact Nat.le_refl _⟩, hb⟩
theorem zpi (A : Option Addr) (zs : List Int) (cap : Nat) (w : World) (hA : IntsAt w w.heap.size .u8 A zs) (hz : Within (0) 255 zs) (h8 : zs.length ≤ 8000) :
 Calls Tryz.prog 139 #[.int .u8 2, .slice A zs.length cap] w fun e w' => ∃ A' : Option Addr, e = .returned (.tuple #[.slice A' zs.length zs.length, .int .u8 0]) ∧
  IntsNew w.heap.size w' .i16 A' (zs.map Cmp.fromAZ) ∧ Below w.heap.size w w' := by
 have hmk := run_make_row' (P := Tryz.prog) 66 93 (.int .i16 0) 2 Tryz.underlying66 zha rfl .i64 .i64 zs.length (by omega) (by omega) w
 obtain ⟨W1, hW1⟩ : ∃ W1, W1 = w.alloc (.cells (madeCells #[.int .i16 0] zs.length) 93) := ⟨_, rfl⟩
 have hrow : W1.rowIs w.heap.size 93 zs.length (fun _ => .int .i16 0) := by rw [hW1]; exact World.rowIs_made w _ _ _
 have qb : Below w.heap.size w W1 := by rw [hW1]; exact (Below.refl _ _).alloc (Nat.le_refl _) _
 rw [← hW1] at hmk
 clear hW1
 go_enter Tryz.func139, Tryz.ntmps139
 go_wp2_with (go_at_call 161; refine (zrk _).mono ?_; rintro e w' ⟨rfl, rfl⟩)
 go_loopw [25] (fun i wr => ∃ k : Nat, k ≤ zs.length ∧ i = .int .i64 k ∧ wr.rowIs w.heap.size 93 zs.length (fun j => .int .i16 (if j < k then Cmp.fromAZ (zs.getD j 0) else 0)) ∧ Below w.heap.size w wr)
  (fun i _ => zs.length - (intOf i).toNat)
 case atStart => exact ⟨0, Nat.zero_le _, rfl, hrow.congr (by simp), qb⟩
 case round =>
  obtain ⟨k, hk, rfl, hr, hb⟩ := hrel
  by_cases hlt : k < zs.length
  · obtain ⟨b, off, rfl, hbB, qc⟩ := hA (by omega)
    have hzk := hz.at hlt
    have hck : wr.cell? ⟨b, off + k, none⟩ = some (.int .u8 (zs.getD k 0)) := (hb.cell (p := ⟨b, off + k, none⟩) hbB).trans (qc k hlt)
    have hcr : wr.cell? ⟨w.heap.size, k, none⟩ = some (.int .i16 0) := by rw [hr.cell hlt]; simp
    have hfr := hr.frozen k
    have hrl := hr.lt
    have hn1 : b ≠ w.heap.size := by omega
    have hn2 : w.heap.size ≠ b := by omega
    have HR := H9 hr
    have hbs := hb.size
    clear hr qc hrow qb hmk
    generalize hzz : zs.getD k 0 = z at hck hzk
    have HZ := H9 hzz
    clear hzz
    obtain ⟨hz1, hz2⟩ := hzk
    have hi0 : (0 : Int) ≤ (k : Int) := by omega
    have hi1 : (k : Int) < (zs.length : Int) := by omega
    have hna := zjp
    have hme := zjq
    go_wp2
    go_region_held3 (fun w' => w'.cell? ⟨b, off + k, none⟩ = some (.int .u8 z)) (go_keep)
     (first | (go_at_call 188; refine (zsh _ _ (by omega) (by omega)).mono ?_; rintro e w' ⟨rfl, rfl⟩) | fail)
    go_wp2
    go_roundw
    case rel =>
     refine ⟨k + 1, by omega, by go_num, ?_, ((hb.setCell (Nat.le_refl _) _).alloc (by simpa using hbs) _).drew⟩
     rw [← HZ.out]
     exact (zbx (g := fun j => Cmp.fromAZ (zs.getD j 0)) HR.out).alloc _
    case measure => simp [intOf]; omega
  · obtain rfl : k = zs.length := by omega
    have HR := H9 hr
    clear hr hrow qb hmk
    go_wp2
    go_ret2
    exact ⟨_, rfl, ⟨IntsAt.of_fill HR.out, fun _ b' o' e => by cases e; exact Nat.le_refl _⟩, hb⟩
theorem zrg (A : Option Addr) (zs : List Int) (cap : Nat) (w : World) (hA : IntsAt w w.heap.size .i16 A zs) (hz : Within (-32768) 32767 zs) (h8 : zs.length ≤ 8000) :
 Calls Tryz.prog 137 #[.int .u8 1, .slice A zs.length cap] w fun e w' => ∃ A' : Option Addr, e = .returned (.tuple #[.slice A' zs.length zs.length, .int .u8 0]) ∧
  IntsNew w.heap.size w' .u8 A' (zs.map Cmp.muZ) ∧ Below w.heap.size w w' := by
 have hmk := run_make_row' (P := Tryz.prog) 22 5 (.int .u8 0) 1 Tryz.underlying22 zkr rfl .i64 .i64 zs.length (by omega) (by omega) w
 obtain ⟨W1, hW1⟩ : ∃ W1, W1 = w.alloc (.cells (madeCells #[.int .u8 0] zs.length) 5) := ⟨_, rfl⟩
 have hrow : W1.rowIs w.heap.size 5 zs.length (fun _ => .int .u8 0) := by rw [hW1]; exact World.rowIs_made w _ _ _
 have qb : Below w.heap.size w W1 := by rw [hW1]; exact (Below.refl _ _).alloc (Nat.le_refl _) _
 rw [← hW1] at hmk
 clear hW1
 go_enter Tryz.func137, Tryz.ntmps137
 go_wp2_with (go_at_call 161; refine (zoe _).mono ?_; rintro e w' ⟨rfl, rfl⟩)
 go_loopw [25] (fun i wr => ∃ k : Nat, k ≤ zs.length ∧ i = .int .i64 k ∧ wr.rowIs w.heap.size 5 zs.length (fun j => .int .u8 (if j < k then Cmp.muZ (zs.getD j 0) else 0)) ∧ Below w.heap.size w wr)
  (fun i _ => zs.length - (intOf i).toNat)
 case atStart => exact ⟨0, Nat.zero_le _, rfl, hrow.congr (by simp), qb⟩
 case round =>
  obtain ⟨k, hk, rfl, hr, hb⟩ := hrel
  by_cases hlt : k < zs.length
  · obtain ⟨b, off, rfl, hbB, qc⟩ := hA (by omega)
    have hzk := hz.at hlt
    have hck : wr.cell? ⟨b, off + k, none⟩ = some (.int .i16 (zs.getD k 0)) := (hb.cell (p := ⟨b, off + k, none⟩) hbB).trans (qc k hlt)
    have hcr : wr.cell? ⟨w.heap.size, k, none⟩ = some (.int .u8 0) := by rw [hr.cell hlt]; simp
    have hfr := hr.frozen k
    have hrl := hr.lt
    have hn1 : b ≠ w.heap.size := by omega
    have hn2 : w.heap.size ≠ b := by omega
    have HR := H9 hr
    have hbs := hb.size
    clear hr qc hrow qb hmk
    generalize hzz : zs.getD k 0 = z at hck hzk
    have HZ := H9 hzz
    clear hzz
    obtain ⟨hz1, hz2⟩ := hzk
    have hi0 : (0 : Int) ≤ (k : Int) := by omega
    have hi1 : (k : Int) < (zs.length : Int) := by omega
    have hna := zlx
    have hme := zly
    go_wp2
    go_region_held3 (fun w' => w'.cell? ⟨b, off + k, none⟩ = some (.int .i16 z)) (go_keep)
     (first | (go_at_call 182; refine (ztu _ _ (by omega) (by omega)).mono ?_; rintro e w' ⟨rfl, rfl⟩) | fail)
    go_wp2
    go_roundw
    case rel =>
     refine ⟨k + 1, by omega, by go_num, ?_, ((hb.setCell (Nat.le_refl _) _).alloc (by simpa using hbs) _).drew⟩
     rw [← HZ.out]
     exact (zbx (g := fun j => Cmp.muZ (zs.getD j 0)) HR.out).alloc _
    case measure => simp [intOf]; omega
  · obtain rfl : k = zs.length := by omega
    have HR := H9 hr
    clear hr hrow qb hmk
    go_wp2
    go_ret2
    exact ⟨_, rfl, ⟨IntsAt.of_fill HR.out, fun _ b' o' e => by cases e; exact Nat.le_refl _⟩, hb⟩
theorem ztf (A : Option Addr) (zs : List Int) (cap : Nat) (w : World) (hA : IntsAt w w.heap.size .i16 A zs) (hz : Within (-32768) 32767 zs) (h8 : zs.length ≤ 8000) :
 Calls Tryz.prog 137 #[.int .u8 2, .slice A zs.length cap] w fun e w' => ∃ A' : Option Addr, e = .returned (.tuple #[.slice A' zs.length zs.length, .int .u8 0]) ∧
  IntsNew w.heap.size w' .u8 A' (zs.map Cmp.aZ) ∧ Below w.heap.size w w' := by
 have hmk := run_make_row' (P := Tryz.prog) 22 5 (.int .u8 0) 1 Tryz.underlying22 zkr rfl .i64 .i64 zs.length (by omega) (by omega) w
 obtain ⟨W1, hW1⟩ : ∃ W1, W1 = w.alloc (.cells (madeCells #[.int .u8 0] zs.length) 5) := ⟨_, rfl⟩
 have hrow : W1.rowIs w.heap.size 5 zs.length (fun _ => .int .u8 0) := by rw [hW1]; exact World.rowIs_made w _ _ _
 have qb : Below w.heap.size w W1 := by rw [hW1]; exact (Below.refl _ _).alloc (Nat.le_refl _) _
 rw [← hW1] at hmk
 clear hW1
 go_enter Tryz.func137, Tryz.ntmps137
 go_wp2_with (go_at_call 161; refine (zrk _).mono ?_; rintro e w' ⟨rfl, rfl⟩)
 go_loopw [25] (fun i wr => ∃ k : Nat, k ≤ zs.length ∧ i = .int .i64 k ∧ wr.rowIs w.heap.size 5 zs.length (fun j => .int .u8 (if j < k then Cmp.aZ (zs.getD j 0) else 0)) ∧ Below w.heap.size w wr)
  (fun i _ => zs.length - (intOf i).toNat)
 case atStart => exact ⟨0, Nat.zero_le _, rfl, hrow.congr (by simp), qb⟩
 case round =>
  obtain ⟨k, hk, rfl, hr, hb⟩ := hrel
  by_cases hlt : k < zs.length
  · obtain ⟨b, off, rfl, hbB, qc⟩ := hA (by omega)
    have hzk := hz.at hlt
    have hck : wr.cell? ⟨b, off + k, none⟩ = some (.int .i16 (zs.getD k 0)) := (hb.cell (p := ⟨b, off + k, none⟩) hbB).trans (qc k hlt)
    have hcr : wr.cell? ⟨w.heap.size, k, none⟩ = some (.int .u8 0) := by rw [hr.cell hlt]; simp
    have hfr := hr.frozen k
    have hrl := hr.lt
    have hn1 : b ≠ w.heap.size := by omega
    have hn2 : w.heap.size ≠ b := by omega
    have HR := H9 hr
    have hbs := hb.size
    clear hr qc hrow qb hmk
    generalize hzz : zs.getD k 0 = z at hck hzk
    have HZ := H9 hzz
    clear hzz
    obtain ⟨hz1, hz2⟩ := hzk
    have hi0 : (0 : Int) ≤ (k : Int) := by omega
    have hi1 : (k : Int) < (zs.length : Int) := by omega
    have hna := zof
    have hme := zog
    go_wp2
    go_region_held3 (fun w' => w'.cell? ⟨b, off + k, none⟩ = some (.int .i16 z)) (go_keep)
     (first | (go_at_call 187; refine (zut _ _ (by omega) (by omega)).mono ?_; rintro e w' ⟨rfl, rfl⟩) | fail)
    go_wp2
    go_roundw
    case rel =>
     refine ⟨k + 1, by omega, by go_num, ?_, ((hb.setCell (Nat.le_refl _) _).alloc (by simpa using hbs) _).drew⟩
     rw [← HZ.out]
     exact (zbx (g := fun j => Cmp.aZ (zs.getD j 0)) HR.out).alloc _
    case measure => simp [intOf]; omega
  · obtain rfl : k = zs.length := by omega
    have HR := H9 hr
    clear hr hrow qb hmk
    go_wp2
    go_ret2
    exact ⟨_, rfl, ⟨IntsAt.of_fill HR.out, fun _ b' o' e => by cases e; exact Nat.le_refl _⟩, hb⟩
end
attribute [local go_sem] zaa zad
section
variable (l s n : Int) (w : World)
def NoiseN (a s : Int) (m : Nat) (w : World) (e : Ending) (w' : World) : Prop :=
 ∃ (A' : Option Addr) (c' : Nat), e = .returned (.tuple #[.slice A' m c', .int .u32 (Ev.seed s m), .int .u8 0]) ∧ IntsNew w.heap.size w' .i16 A' ((List.range m).map fun k => Ev.nsamp a s k) ∧ Below w.heap.size w w'
theorem zpj (m : Nat) (h0 : 0 ≤ l) (h1 : l ≤ 255) (s0 : 0 ≤ s) (s1 : s ≤ 4294967295) (hm : m ≤ 8000) :
 Calls Tryz.prog 155 #[.int .u8 l, .int .u32 s, .int .i64 m] w (NoiseN (Ev.amp (l / 6).toNat) s m w) := by
 obtain ⟨p, hp⟩ := Int.eq_ofNat_of_zero_le (a := l / 6) (by omega)
 have hsh : (32767 : Int) / 2 ^ p = Ev.amp p := Ev.amp_pow ⟨p, by omega⟩
 have hmk := run_make_row' (P := Tryz.prog) 66 93 (.int .i16 0) 2 Tryz.underlying66 Ev.info_i16 rfl .i64 .i64 m (by omega) (by omega) w
 obtain ⟨W1, hW1⟩ : ∃ W1, W1 = w.alloc (.cells (madeCells #[.int .i16 0] m) 93) := ⟨_, rfl⟩
 have hrow : W1.rowIs w.heap.size 93 m (fun _ => .int .i16 0) := by rw [hW1]; exact World.rowIs_made w _ _ _
 have qb : Below w.heap.size w W1 := by rw [hW1]; exact (Below.refl _ _).alloc (Nat.le_refl _) _
 rw [← hW1] at hmk
 clear hW1
 rw [hp, Int.toNat_natCast]
 have ha := Ev.amp_bd p
 obtain ⟨a0, a1⟩ := ha
 generalize Ev.amp p = a at *
 go_enter Tryz.func155, Tryz.ntmps155
 go_wp2
 go_loopw [1, 24] (fun sd i wr => ∃ k : Nat, k ≤ m ∧ i = .int .i64 k ∧ sd = .int .u32 (Ev.seed s k) ∧ wr.rowIs w.heap.size 93 m (fun j => .int .i16 (if j < k then Ev.nsamp a s j else 0)) ∧ Below w.heap.size w wr) (fun _ i _ => m - (intOf i).toNat)
 case atStart => exact ⟨0, Nat.zero_le _, rfl, rfl, hrow.congr (by simp), qb⟩
 case round =>
  obtain ⟨k, hk, rfl, rfl, hr, hb⟩ := hrel
  clear hrow qb hmk
  by_cases hlt : k < m
  · have hcr : wr.cell? ⟨w.heap.size, k, none⟩ = some (.int .i16 0) := by rw [hr.cell hlt]; simp
    have hfr := hr.frozen k
    have hsb := Ev.seed_bd s s0 s1 k
    obtain ⟨b0, b1⟩ := hsb
    have hss : Ev.seed s (k + 1) = (Ev.seed s k * 1103515245 + 12345) % 4294967296 := rfl
    have hns : Ev.nsamp a s k = Ev.seed s (k + 1) / 65536 % (2 * a + 1) - a := rfl
    have hnb := Ev.nsamp_bd a s a0 k
    have HR := H9 hr
    have HSS := H9 hss
    have HNS := H9 hns
    have HNB := H9 hnb
    have hi0 : (0 : Int) ≤ (k : Int) := by omega
    have hi1 : (k : Int) < (m : Int) := by omega
    clear hr hss hns hnb
    generalize Ev.seed s k = x at *
    have hv : IntKind.i16.wrap (wrap64 ((1103515245 * x + 12345) % 4294967296 / 65536 % (2 * a + 1) - a)) = Ev.nsamp a s k := by
     have h1 := HNB.out
     rw [HNS.out, HSS.out, show x * 1103515245 + 12345 = 1103515245 * x + 12345 by omega] at h1 ⊢
     rw [IntWalk.wrap64_in _ ⟨by omega, by omega⟩]
     simp only [IntKind.wrap, IntKind.bits, IntKind.signed]
     simp
     omega
    have HV := H9 hv
    clear hv
    go_wp2
    go_roundw
    case rel =>
     refine ⟨k + 1, by omega, by go_num, ?_, ?_, hb.setCell (Nat.le_refl _) _⟩
     · rw [HSS.out]; congr 1; omega
     · rw [HV.out]; exact zbx (g := fun j => Ev.nsamp a s j) HR.out
    case measure => simp [intOf]; omega
  · obtain rfl : k = m := by omega
    have HR := H9 hr
    clear hr
    go_wp2
    go_ret3
    refine ⟨_, _, rfl, ⟨?_, fun _ b' o' e => by cases e; exact Nat.le_refl _⟩, hb⟩
    refine IntsAt.of_row HR.out (by simp) fun i hi => ?_
    have hi' : i < k := by simpa using hi
    rw [if_pos hi']
    simp [List.getD_eq_getElem?_getD, List.getElem?_range hi']
end
section
theorem znc (n : Nat) (A : Option Addr) (bs : List Int) (cap : Nat) (w : World) (hn : n ≤ 8000) (hn1 : 0 < n) (hA : IntsAt w w.heap.size .u8 A bs) (hz : Within 0 255 bs) (hok : Dlt.okB bs n) (hcap : bs.length ≤ cap) :
 Calls Tryz.prog 94 #[.slice A bs.length cap, .int .i64 n] w fun e w' => ∃ (A' : Option Addr) (c' : Nat), e = .returned (.tuple #[.slice A' n c', .agg #[.int .i64 (Dlt.dAt (Dlt.headS bs) bs n).1, .int .i64 (Dlt.dAt (Dlt.headS bs) bs n).2], .int .u8 0]) ∧
  IntsNew w.heap.size w' .i16 A' (Dlt.unpackL bs n) ∧ Below w.heap.size w w' := by
 have HVAL := H9 (Dlt.headS_valid bs n hok hz)
 obtain ⟨ok1, ok2, ok3, ok4⟩ := hok
 obtain ⟨b, off, rfl, hbB, qc⟩ := hA (by omega)
 have c0 := qc 0 (by omega)
 have c1 := qc 1 (by omega)
 have c2 := qc 2 (by omega)
 have c3 := qc 3 (by omega)
 have cl := qc (bs.length - 1) (by omega)
 obtain ⟨l0, l1⟩ := hz.at (i := bs.length - 1) (by omega)
 obtain ⟨a0, a1⟩ := hz.at (i := 0) (by omega)
 obtain ⟨b0, b1⟩ := hz.at (i := 1) (by omega)
 obtain ⟨g0, g1⟩ := hz.at (i := 2) (by omega)
 have hb' : b ≠ w.heap.size := by omega
 have hb'' : b ≠ w.heap.size + 1 := by omega
 generalize hx0 : bs.getD 0 0 = x0 at *
 generalize hx1 : bs.getD 1 0 = x1 at *
 generalize hx2 : bs.getD 2 0 = x2 at *
 generalize hx3 : bs.getD 3 0 = x3 at *
 have HX3 := H9 (show bs.getD 3 0 = 0 by rw [hx3, ok3])
 subst ok3
 generalize bs.getD (bs.length - 1) 0 = xl at *
 have HX0 := H9 hx0
 have HX1 := H9 hx1
 have HX2 := H9 hx2
 have HCELL := H9 qc
 have HZ := H9 hz
 generalize hM : bs.length = M at *
 have HMM := H9 hM
 clear hA hz qc hx0 hx1 hx2 hM
 have hM4 : (4 : Int) ≤ (M : Int) := by omega
 have hM2 : (2 : Int) < (M : Int) := by omega
 have hM3 : (3 : Int) < (M : Int) := by omega
 have hM1 : (1 : Int) < (M : Int) := by omega
 have hM0 : (0 : Int) < (M : Int) := by omega
 have hl0 : (0 : Int) ≤ (M : Int) - 1 := by omega
 have hl1 : (M : Int) - 1 < (M : Int) := by omega
 have hl2 : ((M : Int) - 1).toNat = M - 1 := by omega
 have cc0 : (w.alloc (.cells #[.int .i64 0, .int .i64 0] 24)).cell? ⟨b, off, none⟩ = some (.int .u8 x0) := (World.cell?_alloc_lt w _ _ hbB).trans c0
 have cc1 : (w.alloc (.cells #[.int .i64 0, .int .i64 0] 24)).cell? ⟨b, off + 1, none⟩ = some (.int .u8 x1) := (World.cell?_alloc_lt w _ _ hbB).trans c1
 have cc2 : (w.alloc (.cells #[.int .i64 0, .int .i64 0] 24)).cell? ⟨b, off + 2, none⟩ = some (.int .u8 x2) := (World.cell?_alloc_lt w _ _ hbB).trans c2
 have cc3 : (w.alloc (.cells #[.int .i64 0, .int .i64 0] 24)).cell? ⟨b, off + 3, none⟩ = some (.int .u8 0) := (World.cell?_alloc_lt w _ _ hbB).trans c3
 have ccl : (w.alloc (.cells #[.int .i64 0, .int .i64 0] 24)).cell? ⟨b, off + (M - 1), none⟩ = some (.int .u8 xl) := (World.cell?_alloc_lt w _ _ hbB).trans cl
 have cd0 : ((w.alloc (.cells #[.int .i64 0, .int .i64 0] 24)).alloc (.cells #[.int .i64 0, .int .i64 0] 24)).cell? ⟨b, off, none⟩ = some (.int .u8 x0) := (World.cell?_alloc_lt _ _ _ (by simp; omega)).trans ((World.cell?_alloc_lt w _ _ hbB).trans c0)
 have cd1 : ((w.alloc (.cells #[.int .i64 0, .int .i64 0] 24)).alloc (.cells #[.int .i64 0, .int .i64 0] 24)).cell? ⟨b, off + 1, none⟩ = some (.int .u8 x1) := (World.cell?_alloc_lt _ _ _ (by simp; omega)).trans ((World.cell?_alloc_lt w _ _ hbB).trans c1)
 have cd2 : ((w.alloc (.cells #[.int .i64 0, .int .i64 0] 24)).alloc (.cells #[.int .i64 0, .int .i64 0] 24)).cell? ⟨b, off + 2, none⟩ = some (.int .u8 x2) := (World.cell?_alloc_lt _ _ _ (by simp; omega)).trans ((World.cell?_alloc_lt w _ _ hbB).trans c2)
 clear c0 c1 c2 c3 cl
 obtain ⟨N, hN⟩ : ∃ N, N = 4 + (n + 1) / 2 := ⟨_, rfl⟩
 obtain rfl : M = N := by omega
 have HS := H9 hN.symm
 have h5 : 5 ≤ M := by omega
 have h5' : M ≤ 4005 := by omega
 clear hN ok1
 have hpar : (n : Int) % 2 = 0 ∨ ((n : Int) % 2 = 1 ∧ (xl % 16 != 0) = false) := by
  by_cases h : n % 2 = 1
  · exact .inr ⟨by omega, by have := ok4 h; simp [this]⟩
  · exact .inl (by omega)
 clear ok4
 go_enter Tryz.func94, Tryz.ntmps94
 go_wp2_with fail
 refine (zaz n _ hn).mono ?_
 rintro e w' ⟨rfl, rfl⟩
 rw [HS.out]
 go_wp2_with fail
 refine (zaz n _ hn).mono ?_
 rintro e w' ⟨rfl, rfl⟩
 rw [HS.out]
 have HI2 := H9 zhc
 have hz89 := zkq
 rcases hpar with hp | ⟨hp, hq⟩
 all_goals
  go_wp2_with fail
  go_region
  go_wp2_with fail
  have hhw := zhx x0 x1 a0 a1 b0 b1
  generalize wrap64 (IntKind.i16.wrap (bits BinOp.or IntKind.u16 (x0 * 256) x1)) = V0 at *
  refine (zfa _).mono ?_
  rintro e w3 ⟨rfl, hb3⟩
  have b0 : Blk ((w.alloc (.cells #[.int .i64 0, .int .i64 0] 24)).alloc (.cells #[.int .i64 V0, .int .i64 x2] 24)).drew w.heap.size 24 #[.int .i64 0, .int .i64 0] := ((Blk.new w _ _).alloc _).drew
  have b1 : Blk ((w.alloc (.cells #[.int .i64 0, .int .i64 0] 24)).alloc (.cells #[.int .i64 V0, .int .i64 x2] 24)).drew (w.heap.size + 1) 24 #[.int .i64 V0, .int .i64 x2] := by
   have h := Blk.new (w.alloc (.cells #[.int .i64 0, .int .i64 0] 24)) 24 #[.int .i64 V0, .int .i64 x2]
   rw [show (w.alloc (.cells #[.int .i64 0, .int .i64 0] 24)).heap.size = w.heap.size + 1 by simp] at h
   exact h.drew
  have hbw : Below w.heap.size w ((w.alloc (.cells #[.int .i64 0, .int .i64 0] 24)).alloc (.cells #[.int .i64 V0, .int .i64 x2] 24)).drew := (((Below.refl _ w).alloc (Nat.le_refl _) _).alloc (by simp) _).drew
  have hs3 : w.heap.size + 1 + 1 ≤ w3.heap.size := by have := hb3.size; simpa using this
  have HB0 := H9 ((b0.later hb3).later (zbg w3))
  have HB1 := H9 ((b1.later hb3).later (zbg w3))
  have HBW := H9 ((hbw.trans (hb3.mono hbw.size)).trans ((zbg w3).mono (by omega)))
  have HST := H9 (zea w3)
  have HT := H9 (zdc w3)
  have HSZ := H9 (zfg w3)
  have hmk := run_make_row' (P := Tryz.prog) 66 93 (.int .i16 0) 2 Tryz.underlying66 zhd rfl .i64 .i64 n (by omega) (by omega) (laidW w3)
  clear b0 b1 hbw hb3 cc0 cc1 cc2 cc3 ccl cd0 cd1 cd2
  go_wp2_with (first
   | (refine wpList_store_mid rfl 198 (.tmp 9) (.tmp 82) (by rfl) w3.heap.size 0 Dlt.szA (by rfl) (by rfl) HT.out HI2.out zjr ?_; change wpList _ _ _ _ _ (laidW w3); generalize laidW w3 = W4 at *; generalize w3.heap.size = gt at *; clear hz89 HT HI2)
   | fail)
  have HH : Hid (Dlt.headS bs = (V0, x2)) := H9 (by unfold Dlt.headS; rw [HX0.out, HX1.out, HX2.out, hhw])
  have HSV0 : Hid (Dlt.valid V0 x2 = true) := H9 (by have h := HVAL.out; rw [HH.out] at h; exact h)
  generalize hr : W4.heap.size = r at *
  have hs4 : w.heap.size + 1 + 1 ≤ r := by have := HSZ.out; omega
  have HSZ' := H9 HSZ.out
  clear hmk hhw
  go_loopw [86] (fun q wr => ∃ k : Nat, k ≤ n ∧ q = .int .i64 k ∧ Blk wr w.heap.size 24 #[.int .i64 0, .int .i64 0] ∧
   Blk wr (w.heap.size + 1) 24 #[.int .i64 (Dlt.dAt (V0, x2) bs k).1, .int .i64 (Dlt.dAt (V0, x2) bs k).2] ∧
   wr.rowIs r 93 n (fun j => .int .i16 (if j < k then (Dlt.dAt (V0, x2) bs (j + 1)).1 else 0)) ∧ StepsAt wr gt ∧ Below w.heap.size w wr)
   (fun q _ => n - (intOf q).toNat)
  case atStart =>
   refine ⟨0, Nat.zero_le _, rfl, HB0.out.alloc _, HB1.out.alloc _, ?_, ?_, ?_⟩
   · have h := World.rowIs_made W4 (.int .i16 0) n 93
     rw [hr] at h
     exact h.congr fun j _ => by simp
   · exact HST.out.below ((Below.refl _ _).alloc (Nat.le_refl _) _)
   · exact HBW.out.alloc (by omega) _
  case round =>
   obtain ⟨k, hk, rfl, B0, B1, R, hst, hb⟩ := hrel
   clear HB0 HB1 HST HBW
   have HSV := H9 (Dlt.dAt_valid (V0, x2) HSV0.out bs k)
   have HNX : Hid (Dlt.dAt (V0, x2) bs (k + 1) = (Dlt.nextV (Dlt.dAt (V0, x2) bs k).1 (Dlt.dAt (V0, x2) bs k).2 (Dlt.nib bs k), Dlt.nextI (Dlt.dAt (V0, x2) bs k).2 (Dlt.nib bs k))) := H9 rfl
   by_cases hlt : k < n
   · have hM6 : 4 + k / 2 < M := by have := HS.out; omega
     have hck : wr.cell? ⟨b, off + 4 + k / 2, none⟩ = some (.int .u8 (bs.getD (4 + k / 2) 0)) := by
      rw [Nat.add_assoc]
      exact (hb.cell (p := ⟨b, off + (4 + k / 2), none⟩) hbB).trans (HCELL.out _ hM6)
     have hzk := HZ.out.at (i := 4 + k / 2) (by rw [HMM.out]; exact hM6)
     have hnib : Dlt.nib bs k = if k % 2 = 0 then bs.getD (4 + k / 2) 0 / 16 else bs.getD (4 + k / 2) 0 % 16 := rfl
     generalize bs.getD (4 + k / 2) 0 = x at hck hzk hnib
     obtain ⟨z0, z1⟩ := hzk
     generalize hc : Dlt.nib bs k = c at *
     generalize hV : (Dlt.dAt (V0, x2) bs k).1 = V at *
     generalize hI : (Dlt.dAt (V0, x2) bs k).2 = I at *
     have HC := H9 hnib
     have c0 := B1.at 0 _ rfl
     have c1 := B1.at 1 _ rfl
     have f0 := B1.frozen 0
     have f1 := B1.frozen 1
     have HB0 := H9 B0
     have HB1 := H9 B1
     have HR := H9 R
     have HST := H9 hst
     have HB := H9 hb
     have hn0 : (0 : Int) ≤ (k : Int) / 2 := by omega
     have hn2 : (k : Int) / 2 < ((M - 4 : Nat) : Int) := by omega
     have hk0 : (0 : Int) ≤ (k : Int) := by omega
     have hk1 : (k : Int) < (n : Int) := by omega
     clear B0 B1 R hst hb hV hI hc hnib
     by_cases hpar : k % 2 = 0
     · have hpar' : (k : Int) % 2 = 0 := by omega
       have hce : x / 16 % 16 = c := by have := HC.out; rw [if_pos hpar] at this; omega
       have HCE := H9 hce
       have z2 : 0 ≤ c := by omega
       have z3 : c ≤ 15 := by omega
       clear hpar hce
       go_wp2_with fail
       rw [HCE.out]
       refine (zdy gt V I c _ HST.out HSV.out z2 z3).mono ?_
       rintro e w6 ⟨rfl, hb6⟩
       have HB06 := H9 (HB0.out.later hb6)
       have HB16 := H9 (HB1.out.later hb6)
       have HR6 := H9 (zbm HR.out hb6 HR.out.lt)
       have HST6 := H9 (HST.out.below hb6)
       have HBW6 := H9 (HB.out.trans (hb6.mono HB.out.size))
       clear hb6 HB0 HB1 HR HST HB c0 c1 f0 f1 hck
       have c0 := HB16.out.at 0 _ rfl
       have c1 := HB16.out.at 1 _ rfl
       have f0 := HB16.out.frozen 0
       have f1 := HB16.out.frozen 1
       have hrc := HR6.out.cell (i := k) (by omega)
       have hrf := HR6.out.frozen k
       have hd1 : w.heap.size + 1 ≠ r := by omega
       have hd2 : r ≠ w.heap.size + 1 := by omega
       obtain ⟨nv0, nv1⟩ := Dlt.nextV_bd V I c
       go_wp2
       go_roundw
       case rel =>
        have h := zeg hs3 HSZ'.out HB06.out HB16.out HR6.out HST6.out HBW6.out HNX.out
        exact ⟨k + 1, by omega, by go_num, h⟩
       case measure => simp [intOf]; omega
     · have hpar' : (k : Int) % 2 = 1 := by omega
       have hce : x % 16 = c := by have := HC.out; rw [if_neg hpar] at this; omega
       have HCE := H9 hce
       have z2 : 0 ≤ c := by omega
       have z3 : c ≤ 15 := by omega
       clear hpar hce
       go_wp2_with fail
       rw [HCE.out]
       refine (zdy gt V I c _ HST.out HSV.out z2 z3).mono ?_
       rintro e w6 ⟨rfl, hb6⟩
       have HB06 := H9 (HB0.out.later hb6)
       have HB16 := H9 (HB1.out.later hb6)
       have HR6 := H9 (zbm HR.out hb6 HR.out.lt)
       have HST6 := H9 (HST.out.below hb6)
       have HBW6 := H9 (HB.out.trans (hb6.mono HB.out.size))
       clear hb6 HB0 HB1 HR HST HB c0 c1 f0 f1 hck
       have c0 := HB16.out.at 0 _ rfl
       have c1 := HB16.out.at 1 _ rfl
       have f0 := HB16.out.frozen 0
       have f1 := HB16.out.frozen 1
       have hrc := HR6.out.cell (i := k) (by omega)
       have hrf := HR6.out.frozen k
       have hd1 : w.heap.size + 1 ≠ r := by omega
       have hd2 : r ≠ w.heap.size + 1 := by omega
       obtain ⟨nv0, nv1⟩ := Dlt.nextV_bd V I c
       go_wp2
       go_roundw
       case rel =>
        have h := zeg hs3 HSZ'.out HB06.out HB16.out HR6.out HST6.out HBW6.out HNX.out
        exact ⟨k + 1, by omega, by go_num, h⟩
       case measure => simp [intOf]; omega
   · obtain rfl : k = n := by omega
     have HB0 := H9 B0
     have HB1 := H9 B1
     have HR := H9 R
     have HB := H9 hb
     have HHH := H9 (show Dlt.headS bs = (V0, x2) from HH.out)
     generalize hV : (Dlt.dAt (V0, x2) bs k).1 = V at *
     generalize hI : (Dlt.dAt (V0, x2) bs k).2 = I at *
     have HV := H9 hV
     have HI := H9 hI
     have c0 := B1.at 0 _ rfl
     have c1 := B1.at 1 _ rfl
     have d0 := B0.at 0 _ rfl
     have d1 := B0.at 1 _ rfl
     have f0 := B0.frozen 0
     have f1 := B0.frozen 1
     clear B0 B1 R hst hb hV hI
     go_wp2
     go_region
     go_wp2
     refine bodyPost_ret (v := .tuple #[.slice (some ⟨r, 0, none⟩) k k, .agg #[.int .i64 V, .int .i64 I], .int .u8 0]) (by simp [results, Tryz.results94, go_sem, d0, d1]) rfl ?_
     refine ⟨some ⟨r, 0, none⟩, k, by rw [HHH.out, HV.out, HI.out], ?_, ?_⟩
     · refine ⟨?_, fun _ b' o' e => by cases e; omega⟩
       refine IntsAt.of_row (((HR.out.setOther (by simp; omega) _).setOther (by simp; omega) _).drew) (by simp [Dlt.unpackL]) fun j hj => ?_
       have hj' : j < k := by simpa [Dlt.unpackL] using hj
       rw [if_pos hj', Dlt.unpackL, HHH.out]
       simp [List.getD_eq_getElem?_getD, List.getElem?_range hj']
     · exact ((HB.out.setCell (by simp) _).setCell (by simp) _).drew
end
end Go.Proofs.YtahbecinkciahaaGreat
namespace Go.Proofs.YtahbecinkciahaaGreat
attribute [local go_sem ↓] zab zac
attribute [local go_sem] zaa zad
open Go.RowKit
def EncR (bs : List Int) (s : Int × Int) (w : World) (e : Ending) (w' : World) : Prop := ∃ (A' : Option Addr) (c' : Nat), e = .returned (.tuple #[.slice A' bs.length c', .agg #[.int .i64 s.1, .int .i64 s.2], .int .u8 0]) ∧ IntsNew w.heap.size w' .u8 A' bs ∧ Below w.heap.size w w'
theorem zun (v i : Int) (A : Option Addr) (zs : List Int) (c b : Nat) (w : World) (hA : IntsAt w w.heap.size .i16 A zs) (hz : Within (-32768) 32767 zs) (h8 : zs.length ≤ 8000) (hb : Blk w b 5 #[.int .u8 1]) : Calls Tryz.prog 136 #[.agg #[.int .i64 v, .int .i64 i], .slice A zs.length c, .pointer (some ⟨b, 0, none⟩)] w (EncR (zs.map Cmp.muZ) (v, i) w) := by
 have k1 := H9 fun (W : World) hW => zrg A zs c W hW hz h8
 have U0 := H9 (((Bel.refl w).push (.cells #[.int .i64 v, .int .i64 i] 24)).push (.cells #[.int .i64 0, .int .i64 0] 24))
 have BS := H9 ((Blk.new w 24 #[.int .i64 v, .int .i64 i]).push (.cells #[.int .i64 0, .int .i64 0] 24))
 have BR := H9 (Blk.new1 w (.cells #[.int .i64 v, .int .i64 i] 24) 24 #[.int .i64 0, .int .i64 0])
 have IA := H9 ((hA.push (.cells #[.int .i64 v, .int .i64 i] 24)).push (.cells #[.int .i64 0, .int .i64 0] 24))
 have BB := H9 ((hb.push (.cells #[.int .i64 v, .int .i64 i] 24)).push (.cells #[.int .i64 0, .int .i64 0] 24))
 have hlt := hb.lt
 clear hA hb hz
 go_enter Tryz.func136, Tryz.ntmps136
 have d0 := BB.out.at 0 _ rfl
 go_wp2_with fail
 refine (k1.out _ IA.out).mono ?_
 rintro e w1 ⟨A1, rfl, hI, hb1⟩
 have U1 := H9 (U0.out.later hb1)
 have BS1 := H9 (BS.out.later hb1)
 have BR1 := H9 (BR.out.later hb1)
 have HI := H9 hI
 clear hb1 hI d0
 have c0 := BS1.out.at 0 _ rfl
 have c1 := BS1.out.at 1 _ rfl
 have r0 := BR1.out.at 0 _ rfl
 have r1 := BR1.out.at 1 _ rfl
 have rz := BR1.out.frozen
 go_upto_region 2 with fail
 go_region
 have RF := BR1.out.set_ 0 (.int .i64 v)
 have RG := RF.set_ 1 (.int .i64 i)
 have q1 := RF.at 1 _ rfl
 have RI : IntsNew w.heap.size ((w1.setCell ⟨w.heap.size + 1, 0, none⟩ (.int .i64 v)).setCell ⟨w.heap.size + 1, 1, none⟩ (.int .i64 i)) .u8 A1 _ := ((HI.out.setCell (p := ⟨w.heap.size + 1, 0, none⟩) (by simp) (.int .i64 v)).setCell (p := ⟨w.heap.size + 1, 1, none⟩) (by simp) (.int .i64 i)).less (by simp; omega)
 have UF : Bel w ((w1.setCell ⟨w.heap.size + 1, 0, none⟩ (.int .i64 v)).setCell ⟨w.heap.size + 1, 1, none⟩ (.int .i64 i)) := zah (zah U1.out (by simp) _) (by simp) _
 go_wp2_with fail
 refine bodyPost_ret (v := .tuple #[.slice A1 zs.length zs.length, .agg #[.int .i64 v, .int .i64 i], .int .u8 0]) (zew Tryz.results136 rfl rfl (run_loadVar_row (P := Tryz.prog) _ _ _ _ _ _ _ RG.drew Tryz.underlying24 rfl (by kernel_rfl)) rfl) rfl ⟨A1, zs.length, by rw [List.length_map], ?_, UF.drew⟩
 exact RI
theorem zuu (v i : Int) (A : Option Addr) (zs : List Int) (c b : Nat) (w : World) (hA : IntsAt w w.heap.size .i16 A zs) (hz : Within (-32768) 32767 zs) (h8 : zs.length ≤ 8000) (hb : Blk w b 5 #[.int .u8 2]) : Calls Tryz.prog 136 #[.agg #[.int .i64 v, .int .i64 i], .slice A zs.length c, .pointer (some ⟨b, 0, none⟩)] w (EncR (zs.map Cmp.aZ) (v, i) w) := by
 have k1 := H9 fun (W : World) hW => ztf A zs c W hW hz h8
 have U0 := H9 (((Bel.refl w).push (.cells #[.int .i64 v, .int .i64 i] 24)).push (.cells #[.int .i64 0, .int .i64 0] 24))
 have BS := H9 ((Blk.new w 24 #[.int .i64 v, .int .i64 i]).push (.cells #[.int .i64 0, .int .i64 0] 24))
 have BR := H9 (Blk.new1 w (.cells #[.int .i64 v, .int .i64 i] 24) 24 #[.int .i64 0, .int .i64 0])
 have IA := H9 ((hA.push (.cells #[.int .i64 v, .int .i64 i] 24)).push (.cells #[.int .i64 0, .int .i64 0] 24))
 have BB := H9 ((hb.push (.cells #[.int .i64 v, .int .i64 i] 24)).push (.cells #[.int .i64 0, .int .i64 0] 24))
 have hlt := hb.lt
 clear hA hb hz
 go_enter Tryz.func136, Tryz.ntmps136
 have d0 := BB.out.at 0 _ rfl
 go_wp2_with fail
 refine (k1.out _ IA.out).mono ?_
 rintro e w1 ⟨A1, rfl, hI, hb1⟩
 have U1 := H9 (U0.out.later hb1)
 have BS1 := H9 (BS.out.later hb1)
 have BR1 := H9 (BR.out.later hb1)
 have HI := H9 hI
 clear hb1 hI d0
 have c0 := BS1.out.at 0 _ rfl
 have c1 := BS1.out.at 1 _ rfl
 have r0 := BR1.out.at 0 _ rfl
 have r1 := BR1.out.at 1 _ rfl
 have rz := BR1.out.frozen
 go_upto_region 2 with fail
 go_region
 have RF := BR1.out.set_ 0 (.int .i64 v)
 have RG := RF.set_ 1 (.int .i64 i)
 have q1 := RF.at 1 _ rfl
 have RI : IntsNew w.heap.size ((w1.setCell ⟨w.heap.size + 1, 0, none⟩ (.int .i64 v)).setCell ⟨w.heap.size + 1, 1, none⟩ (.int .i64 i)) .u8 A1 _ := ((HI.out.setCell (p := ⟨w.heap.size + 1, 0, none⟩) (by simp) (.int .i64 v)).setCell (p := ⟨w.heap.size + 1, 1, none⟩) (by simp) (.int .i64 i)).less (by simp; omega)
 have UF : Bel w ((w1.setCell ⟨w.heap.size + 1, 0, none⟩ (.int .i64 v)).setCell ⟨w.heap.size + 1, 1, none⟩ (.int .i64 i)) := zah (zah U1.out (by simp) _) (by simp) _
 go_wp2_with fail
 refine bodyPost_ret (v := .tuple #[.slice A1 zs.length zs.length, .agg #[.int .i64 v, .int .i64 i], .int .u8 0]) (zew Tryz.results136 rfl rfl (run_loadVar_row (P := Tryz.prog) _ _ _ _ _ _ _ RG.drew Tryz.underlying24 rfl (by kernel_rfl)) rfl) rfl ⟨A1, zs.length, by rw [List.length_map], ?_, UF.drew⟩
 exact RI
end Go.Proofs.YtahbecinkciahaaGreat
namespace Go.Proofs.YtahbecinkciahaaGreat
open Go.RowKit
theorem zbi {P : Program} {ops : Array Oper} {o : Oper} {a : Act} {S : World → Prop} (hgd : o.guard = none) (ty : TypeId) (x : Operand) (ho : o.op = .load ty x) (g i : Nat) (hx : a.eval x = .pointer (some ⟨g, i, none⟩)) (t : TypeId) (cs : List Value) (hg : ∀ w, S w → Blk w g t cs.toArray) (n : Nat) (d : TypeDesc) (hu : P.underlying ty = some d) (hi : (P.info? ty).map (·.size) = some n) (hn : i + n ≤ cs.length) (vs : Array Value) (hv : (partS cs i n).toArray = vs) (hd : aggT d = true) : YieldsIf P ops S o (.agg vs) a := by
 subst hv
 refine Or.inl ⟨by simp [Region.wanted, hgd], fun w hS => ?_⟩
 unfold execOp
 simp only [ho, hx, Instr.loadAt, Instr.sureAddr, Sem.run_bind, Sem.run_pure, Result.andThen_ok, zcv (hg w hS) i n hd hu hi hn]
theorem zap {P : Program} {ops : Array Oper} {o : Oper} {a : Act} {w : World} {K : Act → World → Prop} {Q : Exit → Act → World → Prop} {E : Prop} (hgd : o.guard = none) (ty : TypeId) (x y : Operand) (ho : o.op = .store ty x y) (g i : Nat) (hx : a.eval x = .pointer (some ⟨g, i, none⟩)) (t : TypeId) (cs : List Value) (hg : Blk w g t cs.toArray) (vs : List Value) (hy : a.eval y = .agg vs.toArray) (hi : (P.info? ty).map (·.size) = some vs.length) (hn : i + vs.length ≤ cs.length) (h1 : vs.all (·.oneCell') = true) (cs' : List Value) (hc : overS cs i vs = cs')
 (h : ∀ W, Blk W g t cs'.toArray → OnlyB g w W → K (a.put o.dst undef) W) : if Region.wanted o (yielded ops a.tmps) = true then Oper.wp P o a w K Q else E := by
 subst hc
 rw [if_pos (by simp [Region.wanted, hgd])]
 unfold Oper.wp execOp
 simp only [ho, hx, hy, Instr.storeAt, Instr.sureAddr, Sem.run_bind, Sem.run_pure, Result.andThen_ok, zcn hg i vs hi hn h1]
 unfold Oper.upon
 exact h _ (setRow_heap w g _ _ t _ hg) (OnlyB.setRow w g _)
theorem Blk.dr {W : World} {g : Nat} {t : TypeId} {cs : Array Value} (h : Blk W g t cs) : Blk W.drew g t cs := h
end Go.Proofs.YtahbecinkciahaaGreat
namespace Go.Proofs.YtahbecinkciahaaGreat
attribute [local go_sem ↓] zab zac
attribute [local go_sem] zaa zad
open Go.RowKit
section
variable (q : Int) (A : Option Addr) (zs : List Int) (cap : Nat) (w : World)
theorem zke (q0 : -9223372036854775808 ≤ q) (q1 : q ≤ 9223372036854775807) (hA : IntsAt w w.heap.size .i16 A zs) (hz : Within (-32768) 32767 zs) (hl : zs.length ≤ 8000) :
 Calls Tryz.prog 72 #[.agg #[.int .i64 q], .slice A zs.length cap] w fun e w' => e = .returned (.tuple #[.agg #[.int .i64 (Ev.quiet q zs)], .bool (Ev.quiet q zs == 10)]) ∧ Below w.heap.size w w' := by
 have k1 := H9 fun W h => zhw A zs cap W h hz hl
 obtain ⟨R, hR⟩ : ∃ R, R = Ev.quiet q zs := ⟨_, rfl⟩
 rw [← hR]
 unfold Ev.quiet at hR
 have hb := Ev.lev_bd zs hz
 have IA := H9 ((hA.push (.cells #[.int .i64 q] 33)).push (.cells #[.int .i64 0] 33))
 generalize Ev.lev zs = L at *
 clear hz hA
 by_cases hL : L < 60
 · rw [if_pos hL] at hR
   subst hR
   go_enter Tryz.func72, Tryz.ntmps72
   go_wp2_with (go_at_call 75; refine (k1.out _ IA.out).mono ?_; rintro e w1 ⟨rfl, rfl⟩)
   refine bodyPost_ret (v := .tuple #[.agg #[.int .i64 0], .bool ((0 : Int) == 10)]) (by simp [results, Tryz.results72, go_sem]) rfl ⟨rfl, ?_⟩
   repeat (first | exact Below.refl _ _ | refine Below.drew ?_ | refine Below.setCell ?_ (by simp) _ | refine Below.alloc ?_ (by simp; try omega) _)
 · rw [if_neg hL] at hR
   have hL' : decide (L < 60) = false := by simpa using hL
   have HR := H9 hR
   clear hR hL
   go_enter Tryz.func72, Tryz.ntmps72
   go_wp2_with (go_at_call 75; refine (k1.out _ IA.out).mono ?_; rintro e w1 ⟨rfl, rfl⟩)
   refine bodyPost_ret (v := .tuple #[.agg #[.int .i64 R], .bool (R == 10)]) (by rw [HR.out]; simp [results, Tryz.results72, go_sem]) rfl ⟨rfl, ?_⟩
   repeat (first | exact Below.refl _ _ | refine Below.drew ?_ | refine Below.setCell ?_ (by simp) _ | refine Below.alloc ?_ (by simp; try omega) _)
end
structure TK where
 k : Sb.Pkt
 B : Option Addr
 c : Nat
def TK.row (a : TK) : List Value := pktRow a.k a.B a.c
def Pks (w : World) (n : Nat) (A : Option Addr) (l : List TK) : Prop := RowsAt w n 11 TK.row A l ∧ ∀ a ∈ l, IntsAt w n .u8 a.B a.k.pl
theorem Pks.nil {w : World} {n : Nat} {A : Option Addr} : Pks w n A [] := ⟨fun h => absurd h (by simp), fun _ h => by cases h⟩
theorem Pks.keep {w w' : World} {n : Nat} {A : Option Addr} {l : List TK} (h : Pks w n A l) (hk : ∀ p : Addr, p.block < n → w'.cell? p = w.cell? p) : Pks w' n A l := ⟨h.1.keep hk, fun a ha => (h.2 a ha).keep hk⟩
theorem Pks.more {w : World} {n m : Nat} {A : Option Addr} {l : List TK} (h : Pks w n A l) (hm : n ≤ m) : Pks w m A l := ⟨h.1.more hm, fun a ha => (h.2 a ha).more hm⟩
theorem Pks.later {w w' : World} {A : Option Addr} {l : List TK} (h : Pks w w.heap.size A l) (hb : Below w.heap.size w w') : Pks w' w'.heap.size A l := (h.keep fun _ hp => hb.cell hp).more hb.size
theorem Pks.one {w : World} {base bc c : Nat} {A B : Option Addr} {k : Sb.Pkt} {pl : List Int} (ho : Owns w base 51 11 A 1 c (pktRow k B bc)) (hp : IntsAt w w.heap.size .u8 B pl) (hk : k.pl = pl) : Pks w w.heap.size A [⟨k, B, bc⟩] := by
 refine ⟨Owns.rows (l := [(⟨k, B, bc⟩ : TK)]) (row := TK.row) (by simpa [TK.row] using ho) rfl (fun a => rfl), fun a ha => ?_⟩
 obtain rfl := List.mem_singleton.1 ha
 show IntsAt w w.heap.size .u8 B k.pl
 rw [hk]; exact hp
def findRegS (i : Nat) : Code → Option Code
 | .region j ops d => if i = j then some (.region j ops d) else none
 | .seq a b => match findRegS i a with
   | some c => some c
   | none => findRegS i b
 | .cond _ a b => match findRegS i a with
   | some c => some c
   | none => findRegS i b
 | .block _ c => findRegS i c
 | .loop c => findRegS i c
 | .scope c => findRegS i c
 | _ => none
def PksN (n : Nat) (A : Option Addr) (l : List TK) : Prop := (0 < l.length → ∀ b off, A = some ⟨b, off, none⟩ → n ≤ b) ∧ ∀ a ∈ l, 0 < a.k.pl.length → ∀ b off, a.B = some ⟨b, off, none⟩ → n ≤ b
theorem PksN.nil {n : Nat} {A : Option Addr} : PksN n A [] := ⟨fun h => absurd h (by simp), fun _ h => by cases h⟩
theorem PksN.one {w : World} {n base bc c : Nat} {A B : Option Addr} {k : Sb.Pkt} {xs : List Value} (ho : Owns w base 51 11 A 1 c xs) (hb : n ≤ base) (hp : ∀ b off, B = some ⟨b, off, none⟩ → n ≤ b) : PksN n A [⟨k, B, bc⟩] := by
 refine ⟨fun _ b off e => ?_, fun a ha _ b off e => ?_⟩
 · have := (ho.block b (by rw [e]; rfl)).1
   omega
 · obtain rfl := List.mem_singleton.1 ha
   exact hp b off e
def SendR (R : Sb.Pt × List Sb.Pkt) (w : World) (e : Ending) (w' : World) : Prop :=
 ∃ (A' : Option Addr) (n' c' : Nat) (l' : List TW) (KA : Option Addr) (kc : Nat) (ks : List TK), e = .returned (.tuple #[.agg (PA R.1 A' n' c'), .slice KA ks.length kc, .int .u8 0]) ∧ ks.map TK.k = R.2 ∧ l'.map TW.w = R.1.jt.q ∧ l'.length = n' ∧ n' ≤ c' ∧ c' ≤ maxLen ∧ Wts w' w'.heap.size A' l' ∧ Pks w' w'.heap.size KA ks ∧ Below w.heap.size w w' ∧ PksN w.heap.size KA ks
theorem PM.drew {W : World} {S : List Nat} {g n c : Nat} {p : Sb.Pt} {A : Option Addr} {l : List TW} (h : PM W S g p A n c l) : PM W.drew S g p A n c l := ⟨h.box, h.q, h.len, h.cap, h.cm, ⟨h.qa.wts, h.qa.row, h.qa.pay⟩⟩
theorem QOwn.capm {w : World} {base n c : Nat} {A : Option Addr} {l : List TW} (h : QOwn w base A n c l) : n ≤ c ∧ c ≤ maxLen := ⟨h.own.cap, Owns.capm h.own⟩
theorem zdr (p : Sb.Pt) (hw : p.wf) (A : Option Addr) (l : List TW) (n c : Nat) (X : Array Value) (hX : X = PA p A n c) (w : World) (hq : l.map TW.w = p.jt.q) (hn : l.length = n) (hl : n ≤ 100000) (hA : Wts w w.heap.size A l) (hK : ∀ a ∈ l, I64 a.w.m.sq) (now : Int) : Calls Tryz.prog 38 #[.agg X, .int .i64 now] w fun e w' => e = .returned (.int .u8 (Sb.chkT p now)) ∧ Below w.heap.size w w' := by
 have PB0 := H9 (PB.new w X hX)
 have U0 := H9 ((Bel.refl w).push (.cells X 48))
 have HA := H9 (hA.push (.cells X 48))
 obtain ⟨v, hv⟩ : ∃ v, v = p.valid := ⟨_, rfl⟩
 have k1 := H9 fun (W : World) hW => zdb p hw A l n c (PA p A n c) rfl W hq hn hl hW hK v hv
 obtain ⟨R, hR⟩ : ∃ R, R = Sb.chkT p now := ⟨_, rfl⟩
 rw [← hR]
 unfold Sb.chkT at hR
 rw [← hv] at hR
 have HR := H9 hR
 clear hX hA hK hq hv hR
 go_enter Tryz.func38, Tryz.ntmps38
 go_upto_region 1 with fail
 obtain ⟨W, hW⟩ : ∃ W, W = w.alloc (Obj.cells X 48) := ⟨_, rfl⟩
 rw [← hW] at PB0 U0 HA ⊢
 clear hW
 obtain ⟨g, hg⟩ : ∃ g, g = w.heap.size := ⟨_, rfl⟩
 rw [← hg] at PB0 ⊢
 clear hg
 go_wp2_with (first | fail | (refine zae rfl 48 (.tmp 2) rfl (g) 0 rfl 48 (PL p A n c) PB0.out 48 _ Tryz.underlying48 zag (show 0 + 48 ≤ 48 by decide) (PA p A n c) (by rfl) rfl ?_))
 refine (k1.out _ HA.out).mono ?_
 rintro e w1 ⟨rfl, hb1⟩
 replace U0 := H9 (U0.out.later hb1)
 replace PB0 := H9 (PB0.out.later hb1)
 clear hb1
 have x16 := PB0.out.jt.2.2.1
 cases v
 · obtain rfl : R = 2 := by rw [HR.out]; simp
   go_wp2_with fail
   go_ret
   exact ⟨rfl, U0.out⟩
 by_cases h1 : 281474976710656 < now
 · obtain rfl : R = 2 := by rw [HR.out, if_pos (Or.inr h1)]
   go_wp2_with fail
   go_ret
   exact ⟨rfl, U0.out⟩
 have hno : ¬(true = false ∨ 281474976710656 < now) := fun h => h.elim (fun h => by cases h) h1
 by_cases h2 : now < p.jt.now
 · obtain rfl : R = 9 := by rw [HR.out, if_neg hno, if_pos h2]
   clear hno
   go_wp2_with fail
   go_ret
   exact ⟨rfl, U0.out⟩
 obtain rfl : R = 0 := by rw [HR.out, if_neg hno, if_neg h2]
 clear hno
 go_wp2_with fail
 go_ret
 exact ⟨rfl, U0.out⟩
end Go.Proofs.YtahbecinkciahaaGreat
namespace Go.Proofs.YtahbecinkciahaaGreat.Sb
open Go.RowKit
theorem sounds_snoc : ∀ (l : List Jb.Wt) (s : Int) (a : Jb.Wt), sounds s (l ++ [a]) = ((dec a.m.ty a.m.pl (sounds s l).1).2, (sounds s l).2 ++ [⟨a.at_, (dec a.m.ty a.m.pl (sounds s l).1).1, []⟩])
 | [], s, a => rfl
 | b :: l, s, a => by
   show ((sounds (dec b.m.ty b.m.pl s).2 (l ++ [a])).1, (⟨b.at_, (dec b.m.ty b.m.pl s).1, []⟩ : Sd) :: (sounds (dec b.m.ty b.m.pl s).2 (l ++ [a])).2) = _
   rw [sounds_snoc l (dec b.m.ty b.m.pl s).2 a]
   rfl
theorem take_snoc {α : Type} {l : List α} {k : Nat} {a : α} (h : l[k]? = some a) : l.take (k + 1) = l.take k ++ [a] := by
 rw [List.take_add_one, h]; rfl
theorem noise_seed (a s : Int) (h0 : 0 ≤ s) (h1 : s ≤ 4294967295) (n : Nat) : 0 ≤ Ev.seed s n ∧ Ev.seed s n ≤ 4294967295 := by
 induction n with
 | zero => exact ⟨h0, h1⟩
 | succ n ih => unfold Ev.seed; omega
end Go.Proofs.YtahbecinkciahaaGreat.Sb
namespace Go.Proofs.YtahbecinkciahaaGreat
attribute [local go_sem ↓] zab zac
attribute [local go_sem] zaa zad
open Go.RowKit
theorem zcr : (Tryz.prog.info? 86).map (fun i => (i.zero, i.size, i.bytes)) = some (some (.agg #[.int .i64 0, .slice none 0 0, .slice none 0 0]), 3, 56) := by kernel_rfl
structure Kept (base gl : Nat) (w w' : World) : Prop where
 os : w'.os = w.os
 tape : w'.tape = w.tape
 output : w'.output = w.output
 size : w.heap.size ≤ w'.heap.size
 block : ∀ k, k < base → k < w.heap.size → k ≠ gl → w'.heap[k]? = w.heap[k]?
theorem Kept.blk {base gl g : Nat} {w w' : World} {t : TypeId} {cs : Array Value} (h : Kept base gl w w') (hb : Blk w g t cs) (hg : g < base) (hne : g ≠ gl) : Blk w' g t cs := (h.block g hg hb.lt hne).trans hb
theorem Kept.bel {base gl : Nat} {w0 w w' : World} (h : Kept base gl w w') (hb : Bel w0 w) (hs : w0.heap.size ≤ base) (hg : w0.heap.size ≤ gl) : Bel w0 w' :=
 ⟨h.os.trans hb.os, h.tape.trans hb.tape, h.output.trans hb.output, Nat.le_trans hb.size h.size, fun k hk => (h.block k (by omega) (by have := hb.size; omega) (by omega)).trans (hb.block k hk)⟩
theorem SOwn.step2 {w wn : World} {base k c cn : Nat} {A An : Option Addr} {l : List TS} {a : TS} (h : SOwn w base A k c l) (hg : w.grownBy wn (ownB A))
 (qo : Owns wn base 86 3 An (k + 1) cn (l.flatMap TS.row ++ a.row)) (hat : ownB An = ownB A ∨ ∀ g, ownB An = some g → w.heap.size ≤ g) (hI : IntsAt w w.heap.size .i16 a.S a.s.zs)
 (hf : 0 < a.s.zs.length → ∀ b off, a.S = some ⟨b, off, none⟩ → some b ≠ ownB A ∧ base ≤ b) : SOwn wn base An (k + 1) cn (l ++ [a]) := by
 have s3 := hg.size
 have key : ∀ (x : TS), IntsAt w w.heap.size .i16 x.S x.s.zs → (0 < x.s.zs.length → ∀ b off, x.S = some ⟨b, off, none⟩ → some b ≠ ownB A) → IntsAt wn wn.heap.size .i16 x.S x.s.zs := by
  intro x hx hf h0
  obtain ⟨b, off, e, hlt, hc⟩ := hx h0
  exact ⟨b, off, e, by omega, fun i hi => hg.cell (hc i hi) (hf h0 b off e)⟩
 have low : ∀ (x : TS), IntsAt w w.heap.size .i16 x.S x.s.zs → 0 < x.s.zs.length → ∀ b off, x.S = some ⟨b, off, none⟩ → b < w.heap.size := by
  intro x hx h0 b off e
  obtain ⟨b', off', e', hlt, _⟩ := hx h0
  rw [e] at e'
  injection e' with e'
  injection e' with e1 _
  omega
 have all : ∀ x ∈ l ++ [a], IntsAt w w.heap.size .i16 x.S x.s.zs ∧ (0 < x.s.zs.length → ∀ b off, x.S = some ⟨b, off, none⟩ → some b ≠ ownB A ∧ base ≤ b) := by
  intro x hx
  rcases List.mem_append.1 hx with hx | hx
  · exact ⟨h.pay x hx, fun h0 b off e => ⟨h.far x hx h0 b off e, h.new x hx h0 b off e⟩⟩
  · obtain rfl := List.mem_singleton.1 hx
    exact ⟨hI, hf⟩
 refine ⟨by simp [h.len], by rw [List.flatMap_append]; simpa using qo, fun x hx => key x (all x hx).1 (fun h0 b off e => ((all x hx).2 h0 b off e).1), fun x hx h0 b off e => ?_, fun x hx h0 b off e => ((all x hx).2 h0 b off e).2⟩
 rcases hat with e2 | e2
 · rw [e2]; exact ((all x hx).2 h0 b off e).1
 · intro he
   have := low x (all x hx).1 h0 b off e
   have := e2 b he.symm
   omega
theorem SOwn.only {w w' : World} {g base n c : Nat} {A : Option Addr} {l : List TS} (h : SOwn w base A n c l) (ho : OnlyB g w w') (hg : g < base) : SOwn w' base A n c l :=
 ⟨h.len, ho.owns h.own hg, fun a ha h0 => by
  obtain ⟨b, off, e, hlt, hc⟩ := h.pay a ha h0
  have := h.new a ha h0 b off e
  exact ⟨b, off, e, by rw [ho.2]; exact hlt, fun i hi => (ho.cell (show b ≠ g by omega)).trans (hc i hi)⟩, h.far, h.new⟩
def AddR (base gl : Nat) (k : Nat) (ls : List TS) (a : TS) (w : World) (e : Ending) (w' : World) : Prop :=
 e = .returned (.tuple #[]) ∧ ∃ (A' : Option Addr) (c' : Nat), Blk w' gl 54 #[.slice A' (k + 1) c'] ∧ SOwn w' base A' (k + 1) c' (ls ++ [a]) ∧ Kept base gl w w'
theorem ztg (base gl : Nat) (A : Option Addr) (k c : Nat) (ls : List TS) (at_ : Int) (S : Option Addr) (zs : List Int) (sc : Nat) (w : World) (HL : Blk w gl 54 #[.slice A k c]) (HO : SOwn w base A k c ls) (hk : k ≤ 100000) (hgl : gl < base) (hbs : base ≤ w.heap.size) (hI : IntsAt w w.heap.size .i16 S zs) (hf : 0 < zs.length → ∀ b off, S = some ⟨b, off, none⟩ → some b ≠ ownB A ∧ base ≤ b) : Calls Tryz.prog 111 #[.int .i64 at_, .slice S zs.length sc, .pointer (some ⟨gl, 0, none⟩)] w (AddR base gl k ls ⟨⟨at_, zs, []⟩, S, sc⟩ w) := by
 have HL := H9 HL
 have HO := H9 HO
 have HI := H9 hI
 have HF := H9 hf
 have HX := H9 HO.out.own
 clear hI hf
 go_enter Tryz.func111, Tryz.ntmps111
 have l0 := HL.out.at 0 _ rfl
 have lz := HL.out.frozen 0
 have hlt := HL.out.lt
 have h5 : (k + 1) * 56 ≤ 140737488355328 := by omega
 have h6 : k + 1 ≤ maxLen := by unfold maxLen; omega
 have hAk : ∀ g, ownB A = some g → base ≤ g := fun g e => (HX.out.block g e).1
 go_wp2_with (at_builtin; go_loud (refine zax (w0 := w) rfl _ _ 54 rfl base 86 3 56 _ Tryz.underlying54 zcr rfl (by decide) A k c _ rfl HX.out [.int .i64 at_, .slice S zs.length sc, .slice none 0 0] rfl (by simp [Value.oneCell']) rfl h6 h5 hbs ?_); intro A9 c9 v1 qo hgr hat; have BY := HL.out.grown hgr (fun e => by have := hAk _ e.symm; omega); have y0 := BY.at 0 _ rfl; have yz := BY.frozen 0)
 obtain ⟨V1, hV1⟩ : ∃ W, W = v1.setCell ⟨gl, 0, none⟩ (.slice A9 (k + 1) c9) := ⟨_, rfl⟩
 rw [← hV1]
 have OV : OnlyB gl v1 V1 := by rw [hV1]; exact OnlyB.setCell _ _ _ _
 have BL := H9 (show Blk V1 gl 54 #[.slice A9 (k + 1) c9] by rw [hV1]; exact BY.set_ 0 _)
 have HO2 := H9 ((HO.out.step2 (a := ⟨⟨at_, zs, []⟩, S, sc⟩) hgr (by simpa [TS.row] using qo) hat HI.out HF.out).only OV hgl)
 have HK := H9 (show Kept base gl w V1 from ⟨OV.1.os.trans hgr.os, OV.1.tape.trans hgr.tape, OV.1.output.trans hgr.output, Nat.le_trans hgr.size OV.1.size, fun j h1 h2 h3 => (OV.1.block j (by have := hgr.size; omega) (fun e => h3 (by injection e))).trans (hgr.block j h2 (fun e => by have := hAk _ e.symm; omega))⟩)
 clear hV1 OV BY y0 yz qo hgr hat l0 lz HL HO HX
 go_end0
 exact ⟨rfl, A9, c9, BL.out, HO2.out, HK.out⟩
end Go.Proofs.YtahbecinkciahaaGreat
namespace Go.Proofs.YtahbecinkciahaaGreat
attribute [local go_sem] zaa zad
open Go.RowKit
theorem zhk (n : Int) (A : Option Addr) (m cap : Nat) (w : World) (hn : n < 0 ∨ 8000 < n) :
 Calls Tryz.prog 89 #[.slice A m cap, .int .i64 n] w fun e w' => e = .returned (.tuple #[.slice none 0 0, .agg #[.int .i64 0, .int .i64 0], .int .u8 3]) ∧ Below w.heap.size w w' := by
 rcases hn with hn | hn
 all_goals
  go_enter Tryz.func89, Tryz.ntmps89
  go_wp2_with fail
  refine bodyPost_ret (v := .tuple #[.slice none 0 0, .agg #[.int .i64 0, .int .i64 0], .int .u8 3]) (by simp [results, Tryz.results89, go_sem]) rfl ⟨rfl, ?_⟩
  repeat (first | exact Below.refl _ _ | refine Below.setCell ?_ (by simp) _ | refine Below.alloc ?_ (by simp; try omega) _)
theorem zhl (n : Nat) (A : Option Addr) (m cap : Nat) (w : World) (hn : n ≤ 8000) (hm : m < 4 + (n + 1) / 2) :
 Calls Tryz.prog 89 #[.slice A m cap, .int .i64 n] w fun e w' => e = .returned (.tuple #[.slice none 0 0, .agg #[.int .i64 0, .int .i64 0], .int .u8 6]) ∧ Below w.heap.size w w' := by
 go_enter Tryz.func89, Tryz.ntmps89
 go_wp2_with fail
 refine bodyPost_ret (v := .tuple #[.slice none 0 0, .agg #[.int .i64 0, .int .i64 0], .int .u8 6]) (by simp [results, Tryz.results89, go_sem]) rfl ⟨rfl, ?_⟩
 repeat (first | exact Below.refl _ _ | refine Below.setCell ?_ (by simp) _ | refine Below.alloc ?_ (by simp; try omega) _)
theorem zfw (n : Nat) (A : Option Addr) (bs : List Int) (cap : Nat) (w : World) (hn : n ≤ 8000) (hA : IntsAt w w.heap.size .u8 A bs) (hz : Within 0 255 bs) (hm : 4 + (n + 1) / 2 ≤ bs.length) (hno : ¬Dlt.okB bs n) (hmax : bs.length ≤ maxLen) :
 Calls Tryz.prog 89 #[.slice A bs.length cap, .int .i64 n] w fun e w' => e = .returned (.tuple #[.slice none 0 0, .agg #[.int .i64 0, .int .i64 0], .int .u8 5]) ∧ Below w.heap.size w w' := by
 obtain ⟨b, off, rfl, hbB, qc⟩ := hA (by omega)
 have c2 := qc 2 (by omega)
 have c3 := qc 3 (by omega)
 have cl := qc (bs.length - 1) (by omega)
 obtain ⟨l0, l1⟩ := hz.at (i := bs.length - 1) (by omega)
 obtain ⟨g0, g1⟩ := hz.at (i := 2) (by omega)
 obtain ⟨t0, t1⟩ := hz.at (i := 3) (by omega)
 have hb' : b ≠ w.heap.size := by omega
 unfold Dlt.okB at hno
 generalize bs.getD 2 0 = x2 at *
 generalize bs.getD 3 0 = x3 at *
 generalize bs.getD (bs.length - 1) 0 = xl at *
 clear hA hz qc
 generalize hM : bs.length = M at *
 unfold maxLen at hmax
 have hM4 : (4 : Int) ≤ (M : Int) := by omega
 have hM2 : (2 : Int) < (M : Int) := by omega
 have hM3 : (3 : Int) < (M : Int) := by omega
 have hl0 : (0 : Int) ≤ (M : Int) - 1 := by omega
 have hl1 : (M : Int) - 1 < (M : Int) := by omega
 have hl2 : ((M : Int) - 1).toNat = M - 1 := by omega
 have cc2 : (w.alloc (.cells #[.int .i64 0, .int .i64 0] 24)).cell? ⟨b, off + 2, none⟩ = some (.int .u8 x2) := (World.cell?_alloc_lt w _ _ hbB).trans c2
 have cc3 : (w.alloc (.cells #[.int .i64 0, .int .i64 0] 24)).cell? ⟨b, off + 3, none⟩ = some (.int .u8 x3) := (World.cell?_alloc_lt w _ _ hbB).trans c3
 have ccl : (w.alloc (.cells #[.int .i64 0, .int .i64 0] 24)).cell? ⟨b, off + (M - 1), none⟩ = some (.int .u8 xl) := (World.cell?_alloc_lt w _ _ hbB).trans cl
 clear c2 c3 cl
 generalize hs : 4 + (n + 1) / 2 = N at *
 have HS := H9 hs
 have hsI : (4 : Int) + ((n : Int) + 1) / 2 = (N : Int) := by omega
 have h : N < M ∨ (M = N ∧ 88 < x2) ∨ (M = N ∧ x2 ≤ 88 ∧ x3 ≠ 0) ∨ (M = N ∧ x2 ≤ 88 ∧ x3 = 0 ∧ (n : Int) % 2 = 1 ∧ xl % 16 ≠ 0) := by omega
 clear hno hs
 rcases h with h | ⟨rfl, h⟩ | ⟨rfl, h2, h3⟩ | ⟨rfl, h2, rfl, h4, h5⟩
 all_goals try have h5b : (xl % 16 != 0) = true := bne_iff_ne.2 h5
 all_goals
  go_enter Tryz.func89, Tryz.ntmps89
  go_wp2_with fail
  refine bodyPost_ret (v := .tuple #[.slice none 0 0, .agg #[.int .i64 0, .int .i64 0], .int .u8 5]) (by simp [results, Tryz.results89, go_sem]) rfl ⟨rfl, ?_⟩
  repeat (first | exact Below.refl _ _ | refine Below.setCell ?_ (by simp) _ | refine Below.alloc ?_ (by simp; try omega) _)
theorem zkf (A : Option Addr) (bs : List Int) (cap : Nat) (w : World) (hA : IntsAt w w.heap.size .u8 A bs) (hz : Within 0 255 bs) (hok : Dlt.okB bs 0) (hcap : bs.length ≤ cap) :
 Calls Tryz.prog 94 #[.slice A bs.length cap, .int .i64 0] w fun e w' => ∃ (A' : Option Addr) (c' : Nat), e = .returned (.tuple #[.slice A' 0 c', .agg #[.int .i64 (Dlt.dAt (Dlt.headS bs) bs 0).1, .int .i64 (Dlt.dAt (Dlt.headS bs) bs 0).2], .int .u8 0]) ∧
  IntsAt w' w'.heap.size .i16 A' (Dlt.unpackL bs 0) ∧ Below w.heap.size w w' := by
 have HVAL := H9 (Dlt.headS_valid bs 0 hok hz)
 obtain ⟨ok1, ok2, ok3, ok4⟩ := hok
 obtain ⟨b, off, rfl, hbB, qc⟩ := hA (by omega)
 have c0 := qc 0 (by omega)
 have c1 := qc 1 (by omega)
 have c2 := qc 2 (by omega)
 have c3 := qc 3 (by omega)
 obtain ⟨a0, a1⟩ := hz.at (i := 0) (by omega)
 obtain ⟨b0, b1⟩ := hz.at (i := 1) (by omega)
 obtain ⟨g0, g1⟩ := hz.at (i := 2) (by omega)
 have hb' : b ≠ w.heap.size := by omega
 have hb'' : b ≠ w.heap.size + 1 := by omega
 generalize hx0 : bs.getD 0 0 = x0 at *
 generalize hx1 : bs.getD 1 0 = x1 at *
 generalize hx2 : bs.getD 2 0 = x2 at *
 generalize hx3 : bs.getD 3 0 = x3 at *
 have HX3 := H9 (show bs.getD 3 0 = 0 by rw [hx3, ok3])
 subst ok3
 have HX0 := H9 hx0
 have HX1 := H9 hx1
 have HX2 := H9 hx2
 have HCELL := H9 qc
 have HZ := H9 hz
 generalize hM : bs.length = M at *
 have HMM := H9 hM
 clear hA hz qc hx0 hx1 hx2 hM
 obtain rfl : M = 4 := by omega
 clear ok1 ok4
 have cc0 : (w.alloc (.cells #[.int .i64 0, .int .i64 0] 24)).cell? ⟨b, off, none⟩ = some (.int .u8 x0) := (World.cell?_alloc_lt w _ _ hbB).trans c0
 have cc1 : (w.alloc (.cells #[.int .i64 0, .int .i64 0] 24)).cell? ⟨b, off + 1, none⟩ = some (.int .u8 x1) := (World.cell?_alloc_lt w _ _ hbB).trans c1
 have cc2 : (w.alloc (.cells #[.int .i64 0, .int .i64 0] 24)).cell? ⟨b, off + 2, none⟩ = some (.int .u8 x2) := (World.cell?_alloc_lt w _ _ hbB).trans c2
 have cc3 : (w.alloc (.cells #[.int .i64 0, .int .i64 0] 24)).cell? ⟨b, off + 3, none⟩ = some (.int .u8 0) := (World.cell?_alloc_lt w _ _ hbB).trans c3
 have cd0 : ((w.alloc (.cells #[.int .i64 0, .int .i64 0] 24)).alloc (.cells #[.int .i64 0, .int .i64 0] 24)).cell? ⟨b, off, none⟩ = some (.int .u8 x0) := (World.cell?_alloc_lt _ _ _ (by simp; omega)).trans ((World.cell?_alloc_lt w _ _ hbB).trans c0)
 have cd1 : ((w.alloc (.cells #[.int .i64 0, .int .i64 0] 24)).alloc (.cells #[.int .i64 0, .int .i64 0] 24)).cell? ⟨b, off + 1, none⟩ = some (.int .u8 x1) := (World.cell?_alloc_lt _ _ _ (by simp; omega)).trans ((World.cell?_alloc_lt w _ _ hbB).trans c1)
 have cd2 : ((w.alloc (.cells #[.int .i64 0, .int .i64 0] 24)).alloc (.cells #[.int .i64 0, .int .i64 0] 24)).cell? ⟨b, off + 2, none⟩ = some (.int .u8 x2) := (World.cell?_alloc_lt _ _ _ (by simp; omega)).trans ((World.cell?_alloc_lt w _ _ hbB).trans c2)
 clear c0 c1 c2 c3
 go_enter Tryz.func94, Tryz.ntmps94
 go_wp2_with fail
 refine (zaz 0 _ (by omega)).mono ?_
 rintro e w' ⟨rfl, rfl⟩
 go_wp2_with fail
 refine (zaz 0 _ (by omega)).mono ?_
 rintro e w' ⟨rfl, rfl⟩
 have HI2 := H9 zhc
 have hz89 := zkq
 all_goals
  go_wp2_with fail
  go_region
  go_wp2_with fail
  have hhw := zhx x0 x1 a0 a1 b0 b1
  generalize wrap64 (IntKind.i16.wrap (bits BinOp.or IntKind.u16 (x0 * 256) x1)) = V0 at *
  refine (zfa _).mono ?_
  rintro e w3 ⟨rfl, hb3⟩
  have b0 : Blk ((w.alloc (.cells #[.int .i64 0, .int .i64 0] 24)).alloc (.cells #[.int .i64 V0, .int .i64 x2] 24)).drew w.heap.size 24 #[.int .i64 0, .int .i64 0] := ((Blk.new w _ _).alloc _).drew
  have b1 : Blk ((w.alloc (.cells #[.int .i64 0, .int .i64 0] 24)).alloc (.cells #[.int .i64 V0, .int .i64 x2] 24)).drew (w.heap.size + 1) 24 #[.int .i64 V0, .int .i64 x2] := by
   have h := Blk.new (w.alloc (.cells #[.int .i64 0, .int .i64 0] 24)) 24 #[.int .i64 V0, .int .i64 x2]
   rw [show (w.alloc (.cells #[.int .i64 0, .int .i64 0] 24)).heap.size = w.heap.size + 1 by simp] at h
   exact h.drew
  have hbw : Below w.heap.size w ((w.alloc (.cells #[.int .i64 0, .int .i64 0] 24)).alloc (.cells #[.int .i64 V0, .int .i64 x2] 24)).drew := (((Below.refl _ w).alloc (Nat.le_refl _) _).alloc (by simp) _).drew
  have hs3 : w.heap.size + 1 + 1 ≤ w3.heap.size := by have := hb3.size; simpa using this
  have HB0 := H9 ((b0.later hb3).later (zbg w3))
  have HB1 := H9 ((b1.later hb3).later (zbg w3))
  have HBW := H9 ((hbw.trans (hb3.mono hbw.size)).trans ((zbg w3).mono (by omega)))
  have HST := H9 (zea w3)
  have HT := H9 (zdc w3)
  have HSZ := H9 (zfg w3)
  have hmk := run_make_row' (P := Tryz.prog) 66 93 (.int .i16 0) 2 Tryz.underlying66 zhd rfl .i64 .i64 0 (by omega) (by omega) (laidW w3)
  change (Instr.makeSlice 66 (.int .i64 0) (.int .i64 0)).run Tryz.prog _ = _ at hmk
  clear b0 b1 hbw hb3 cc0 cc1 cc2 cc3 cd0 cd1 cd2
  go_wp2_with (first
   | (refine wpList_store_mid rfl 198 (.tmp 9) (.tmp 82) (by rfl) w3.heap.size 0 Dlt.szA (by rfl) (by rfl) HT.out HI2.out zjr ?_; change wpList _ _ _ _ _ (laidW w3); generalize laidW w3 = W4 at *; generalize w3.heap.size = gt at *; clear hz89 HT HI2)
   | fail)
  have HH : Hid (Dlt.headS bs = (V0, x2)) := H9 (by unfold Dlt.headS; rw [HX0.out, HX1.out, HX2.out, hhw])
  have HSV0 : Hid (Dlt.valid V0 x2 = true) := H9 (by have h := HVAL.out; rw [HH.out] at h; exact h)
  generalize hr : W4.heap.size = r at *
  have hs4 : w.heap.size + 1 + 1 ≤ r := by have := HSZ.out; omega
  have HSZ' := H9 HSZ.out
  clear hmk hhw
  go_loopw [86] (fun q wr => q = .int .i64 0 ∧ Blk wr w.heap.size 24 #[.int .i64 0, .int .i64 0] ∧
   Blk wr (w.heap.size + 1) 24 #[.int .i64 V0, .int .i64 x2] ∧ Below w.heap.size w wr)
   (fun q _ => 0)
  case atStart => exact ⟨rfl, HB0.out.alloc _, HB1.out.alloc _, HBW.out.alloc (by omega) _⟩
  case round =>
   obtain ⟨rfl, B0, B1, hb⟩ := hrel
   clear HB0 HB1 HST HBW
   have HHH := H9 (show Dlt.headS bs = (V0, x2) from HH.out)
   have HB := H9 hb
   have c0 := B1.at 0 _ rfl
   have c1 := B1.at 1 _ rfl
   have d0 := B0.at 0 _ rfl
   have d1 := B0.at 1 _ rfl
   have f0 := B0.frozen 0
   have f1 := B0.frozen 1
   clear B0 B1 hb
   go_wp2
   go_region
   go_wp2
   refine bodyPost_ret (v := .tuple #[.slice (some ⟨r, 0, none⟩) 0 0, .agg #[.int .i64 V0, .int .i64 x2], .int .u8 0]) (by simp [results, Tryz.results94, go_sem, d0, d1]) rfl ?_
   refine ⟨some ⟨r, 0, none⟩, 0, by rw [HHH.out]; rfl, ?_, ?_⟩
   · exact IntsAt.nil
   · exact ((HB.out.setCell (by simp) _).setCell (by simp) _).drew
end Go.Proofs.YtahbecinkciahaaGreat
