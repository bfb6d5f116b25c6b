/- Layer 32: what decoders make is new (Unpack of the two laws, Noise, Unpack of delta). -/
import Derived.Test.YtahbecinkciahaaGreatSs9S
import Derived.Test.YtahbecinkciahaaGreatJtPutG1S
import Derived.Deep.RegionHeld3
import Derived.Deep.RegionWith
import Derived.Test.YtahbecinkciahaaGreatJtCopyS
import Derived.RegionTactic
import Derived.ChangeAlike
import Derived.Test.YtahbecinkciahaaGreatJtMeas2S
import Derived.StillTailTactics
set_option linter.unusedVariables false
set_option linter.unusedSimpArgs false
set_option maxRecDepth 100000
set_option maxHeartbeats 12800000
namespace Go.Proofs.YtahbecinkciahaaGreat
open Go.RowKit
section
theorem zmn (A : Option Addr) (zs : List Int) (cap : Nat) (w : World) (hA : IntsAt w w.heap.size .u8 A zs) (hz : Within (0) 255 zs) (h8 : zs.length ≤ 8000) :
 Calls Tryz.prog 139 #[.int .u8 1, .slice A zs.length cap] w fun e w' => ∃ A' : Option Addr, e = .returned (.tuple #[.slice A' zs.length zs.length, .int .u8 0]) ∧
  IntsNew w.heap.size w' .i16 A' (zs.map Cmp.fromMuZ) ∧ Below w.heap.size w w' := by
 have hmk := run_make_row' (P := Tryz.prog) 66 93 (.int .i16 0) 2 Tryz.underlying66 zoo rfl .i64 .i64 zs.length (by omega) (by omega) w
 obtain ⟨W1, hW1⟩ : ∃ W1, W1 = w.alloc (.cells (madeCells #[.int .i16 0] zs.length) 93) := ⟨_, rfl⟩
 have hrow : W1.rowIs w.heap.size 93 zs.length (fun _ => .int .i16 0) := by rw [hW1]; exact World.rowIs_made w _ _ _
 have qb : Below w.heap.size w W1 := by rw [hW1]; exact (Below.refl _ _).alloc (Nat.le_refl _) _
 rw [← hW1] at hmk
 clear hW1
 go_enter Tryz.func139, Tryz.ntmps139
 go_wp2_with (go_at_call 161; refine (zon _).mono ?_; rintro e w' ⟨rfl, rfl⟩)
 go_loopw [25] (fun i wr => ∃ k : Nat, k ≤ zs.length ∧ i = .int .i64 k ∧ wr.rowIs w.heap.size 93 zs.length (fun j => .int .i16 (if j < k then Cmp.fromMuZ (zs.getD j 0) else 0)) ∧ Below w.heap.size w wr)
  (fun i _ => zs.length - (intOf i).toNat)
 case atStart => exact ⟨0, Nat.zero_le _, rfl, hrow.congr (by simp), qb⟩
 case round =>
  obtain ⟨k, hk, rfl, hr, hb⟩ := hrel
  by_cases hlt : k < zs.length
  · obtain ⟨b, off, rfl, hbB, qc⟩ := hA (by omega)
    have hzk := hz.at hlt
    have hck : wr.cell? ⟨b, off + k, none⟩ = some (.int .u8 (zs.getD k 0)) := (hb.cell (p := ⟨b, off + k, none⟩) hbB).trans (qc k hlt)
    have hcr : wr.cell? ⟨w.heap.size, k, none⟩ = some (.int .i16 0) := by rw [hr.cell hlt]; simp
    have hfr := hr.frozen k
    have hrl := hr.lt
    have hn1 : b ≠ w.heap.size := by omega
    have hn2 : w.heap.size ≠ b := by omega
    have HR := H9 hr
    have hbs := hb.size
    clear hr qc hrow qb hmk
    generalize hzz : zs.getD k 0 = z at hck hzk
    have HZ := H9 hzz
    clear hzz
    obtain ⟨hz1, hz2⟩ := hzk
    have hi0 : (0 : Int) ≤ (k : Int) := by omega
    have hi1 : (k : Int) < (zs.length : Int) := by omega
    have hna := zid
    have hme := zie
    go_wp2
    go_region_held3 (fun w' => w'.cell? ⟨b, off + k, none⟩ = some (.int .u8 z)) (go_keep)
     (first | (go_at_call 183; refine (zqs _ _ (by omega) (by omega)).mono ?_; rintro e w' ⟨rfl, rfl⟩) | fail)
    go_wp2
    go_roundw
    case rel =>
     refine ⟨k + 1, by omega, by go_num, ?_, ((hb.setCell (Nat.le_refl _) _).alloc (by simpa using hbs) _).drew⟩
     rw [← HZ.out]
     exact (zby (g := fun j => Cmp.fromMuZ (zs.getD j 0)) HR.out).alloc _
    case measure => simp [intOf]; omega
  · obtain rfl : k = zs.length := by omega
    have HR := H9 hr
    clear hr hrow qb hmk
    go_wp2
    go_ret2
    exact ⟨_, rfl, ⟨IntsAt.of_fill HR.out, fun _ b' o' e => by cases e; exact Nat.le_refl _⟩, hb⟩
theorem zos (A : Option Addr) (zs : List Int) (cap : Nat) (w : World) (hA : IntsAt w w.heap.size .u8 A zs) (hz : Within (0) 255 zs) (h8 : zs.length ≤ 8000) :
 Calls Tryz.prog 139 #[.int .u8 2, .slice A zs.length cap] w fun e w' => ∃ A' : Option Addr, e = .returned (.tuple #[.slice A' zs.length zs.length, .int .u8 0]) ∧
  IntsNew w.heap.size w' .i16 A' (zs.map Cmp.fromAZ) ∧ Below w.heap.size w w' := by
 have hmk := run_make_row' (P := Tryz.prog) 66 93 (.int .i16 0) 2 Tryz.underlying66 zoo rfl .i64 .i64 zs.length (by omega) (by omega) w
 obtain ⟨W1, hW1⟩ : ∃ W1, W1 = w.alloc (.cells (madeCells #[.int .i16 0] zs.length) 93) := ⟨_, rfl⟩
 have hrow : W1.rowIs w.heap.size 93 zs.length (fun _ => .int .i16 0) := by rw [hW1]; exact World.rowIs_made w _ _ _
 have qb : Below w.heap.size w W1 := by rw [hW1]; exact (Below.refl _ _).alloc (Nat.le_refl _) _
 rw [← hW1] at hmk
 clear hW1
 go_enter Tryz.func139, Tryz.ntmps139
 go_wp2_with (go_at_call 161; refine (zrb _).mono ?_; rintro e w' ⟨rfl, rfl⟩)
 go_loopw [25] (fun i wr => ∃ k : Nat, k ≤ zs.length ∧ i = .int .i64 k ∧ wr.rowIs w.heap.size 93 zs.length (fun j => .int .i16 (if j < k then Cmp.fromAZ (zs.getD j 0) else 0)) ∧ Below w.heap.size w wr)
  (fun i _ => zs.length - (intOf i).toNat)
 case atStart => exact ⟨0, Nat.zero_le _, rfl, hrow.congr (by simp), qb⟩
 case round =>
  obtain ⟨k, hk, rfl, hr, hb⟩ := hrel
  by_cases hlt : k < zs.length
  · obtain ⟨b, off, rfl, hbB, qc⟩ := hA (by omega)
    have hzk := hz.at hlt
    have hck : wr.cell? ⟨b, off + k, none⟩ = some (.int .u8 (zs.getD k 0)) := (hb.cell (p := ⟨b, off + k, none⟩) hbB).trans (qc k hlt)
    have hcr : wr.cell? ⟨w.heap.size, k, none⟩ = some (.int .i16 0) := by rw [hr.cell hlt]; simp
    have hfr := hr.frozen k
    have hrl := hr.lt
    have hn1 : b ≠ w.heap.size := by omega
    have hn2 : w.heap.size ≠ b := by omega
    have HR := H9 hr
    have hbs := hb.size
    clear hr qc hrow qb hmk
    generalize hzz : zs.getD k 0 = z at hck hzk
    have HZ := H9 hzz
    clear hzz
    obtain ⟨hz1, hz2⟩ := hzk
    have hi0 : (0 : Int) ≤ (k : Int) := by omega
    have hi1 : (k : Int) < (zs.length : Int) := by omega
    have hna := zjs
    have hme := zjt
    go_wp2
    go_region_held3 (fun w' => w'.cell? ⟨b, off + k, none⟩ = some (.int .u8 z)) (go_keep)
     (first | (go_at_call 188; refine (zsn _ _ (by omega) (by omega)).mono ?_; rintro e w' ⟨rfl, rfl⟩) | fail)
    go_wp2
    go_roundw
    case rel =>
     refine ⟨k + 1, by omega, by go_num, ?_, ((hb.setCell (Nat.le_refl _) _).alloc (by simpa using hbs) _).drew⟩
     rw [← HZ.out]
     exact (zby (g := fun j => Cmp.fromAZ (zs.getD j 0)) HR.out).alloc _
    case measure => simp [intOf]; omega
  · obtain rfl : k = zs.length := by omega
    have HR := H9 hr
    clear hr hrow qb hmk
    go_wp2
    go_ret2
    exact ⟨_, rfl, ⟨IntsAt.of_fill HR.out, fun _ b' o' e => by cases e; exact Nat.le_refl _⟩, hb⟩
theorem zqt (A : Option Addr) (zs : List Int) (cap : Nat) (w : World) (hA : IntsAt w w.heap.size .i16 A zs) (hz : Within (-32768) 32767 zs) (h8 : zs.length ≤ 8000) :
 Calls Tryz.prog 137 #[.int .u8 1, .slice A zs.length cap] w fun e w' => ∃ A' : Option Addr, e = .returned (.tuple #[.slice A' zs.length zs.length, .int .u8 0]) ∧
  IntsNew w.heap.size w' .u8 A' (zs.map Cmp.muZ) ∧ Below w.heap.size w w' := by
 have hmk := run_make_row' (P := Tryz.prog) 22 5 (.int .u8 0) 1 Tryz.underlying22 zku rfl .i64 .i64 zs.length (by omega) (by omega) w
 obtain ⟨W1, hW1⟩ : ∃ W1, W1 = w.alloc (.cells (madeCells #[.int .u8 0] zs.length) 5) := ⟨_, rfl⟩
 have hrow : W1.rowIs w.heap.size 5 zs.length (fun _ => .int .u8 0) := by rw [hW1]; exact World.rowIs_made w _ _ _
 have qb : Below w.heap.size w W1 := by rw [hW1]; exact (Below.refl _ _).alloc (Nat.le_refl _) _
 rw [← hW1] at hmk
 clear hW1
 go_enter Tryz.func137, Tryz.ntmps137
 go_wp2_with (go_at_call 161; refine (zon _).mono ?_; rintro e w' ⟨rfl, rfl⟩)
 go_loopw [25] (fun i wr => ∃ k : Nat, k ≤ zs.length ∧ i = .int .i64 k ∧ wr.rowIs w.heap.size 5 zs.length (fun j => .int .u8 (if j < k then Cmp.muZ (zs.getD j 0) else 0)) ∧ Below w.heap.size w wr)
  (fun i _ => zs.length - (intOf i).toNat)
 case atStart => exact ⟨0, Nat.zero_le _, rfl, hrow.congr (by simp), qb⟩
 case round =>
  obtain ⟨k, hk, rfl, hr, hb⟩ := hrel
  by_cases hlt : k < zs.length
  · obtain ⟨b, off, rfl, hbB, qc⟩ := hA (by omega)
    have hzk := hz.at hlt
    have hck : wr.cell? ⟨b, off + k, none⟩ = some (.int .i16 (zs.getD k 0)) := (hb.cell (p := ⟨b, off + k, none⟩) hbB).trans (qc k hlt)
    have hcr : wr.cell? ⟨w.heap.size, k, none⟩ = some (.int .u8 0) := by rw [hr.cell hlt]; simp
    have hfr := hr.frozen k
    have hrl := hr.lt
    have hn1 : b ≠ w.heap.size := by omega
    have hn2 : w.heap.size ≠ b := by omega
    have HR := H9 hr
    have hbs := hb.size
    clear hr qc hrow qb hmk
    generalize hzz : zs.getD k 0 = z at hck hzk
    have HZ := H9 hzz
    clear hzz
    obtain ⟨hz1, hz2⟩ := hzk
    have hi0 : (0 : Int) ≤ (k : Int) := by omega
    have hi1 : (k : Int) < (zs.length : Int) := by omega
    have hna := zml
    have hme := zmm
    go_wp2
    go_region_held3 (fun w' => w'.cell? ⟨b, off + k, none⟩ = some (.int .i16 z)) (go_keep)
     (first | (go_at_call 182; refine (ztw _ _ (by omega) (by omega)).mono ?_; rintro e w' ⟨rfl, rfl⟩) | fail)
    go_wp2
    go_roundw
    case rel =>
     refine ⟨k + 1, by omega, by go_num, ?_, ((hb.setCell (Nat.le_refl _) _).alloc (by simpa using hbs) _).drew⟩
     rw [← HZ.out]
     exact (zby (g := fun j => Cmp.muZ (zs.getD j 0)) HR.out).alloc _
    case measure => simp [intOf]; omega
  · obtain rfl : k = zs.length := by omega
    have HR := H9 hr
    clear hr hrow qb hmk
    go_wp2
    go_ret2
    exact ⟨_, rfl, ⟨IntsAt.of_fill HR.out, fun _ b' o' e => by cases e; exact Nat.le_refl _⟩, hb⟩
theorem zso (A : Option Addr) (zs : List Int) (cap : Nat) (w : World) (hA : IntsAt w w.heap.size .i16 A zs) (hz : Within (-32768) 32767 zs) (h8 : zs.length ≤ 8000) :
 Calls Tryz.prog 137 #[.int .u8 2, .slice A zs.length cap] w fun e w' => ∃ A' : Option Addr, e = .returned (.tuple #[.slice A' zs.length zs.length, .int .u8 0]) ∧
  IntsNew w.heap.size w' .u8 A' (zs.map Cmp.aZ) ∧ Below w.heap.size w w' := by
 have hmk := run_make_row' (P := Tryz.prog) 22 5 (.int .u8 0) 1 Tryz.underlying22 zku rfl .i64 .i64 zs.length (by omega) (by omega) w
 obtain ⟨W1, hW1⟩ : ∃ W1, W1 = w.alloc (.cells (madeCells #[.int .u8 0] zs.length) 5) := ⟨_, rfl⟩
 have hrow : W1.rowIs w.heap.size 5 zs.length (fun _ => .int .u8 0) := by rw [hW1]; exact World.rowIs_made w _ _ _
 have qb : Below w.heap.size w W1 := by rw [hW1]; exact (Below.refl _ _).alloc (Nat.le_refl _) _
 rw [← hW1] at hmk
 clear hW1
 go_enter Tryz.func137, Tryz.ntmps137
 go_wp2_with (go_at_call 161; refine (zrb _).mono ?_; rintro e w' ⟨rfl, rfl⟩)
 go_loopw [25] (fun i wr => ∃ k : Nat, k ≤ zs.length ∧ i = .int .i64 k ∧ wr.rowIs w.heap.size 5 zs.length (fun j => .int .u8 (if j < k then Cmp.aZ (zs.getD j 0) else 0)) ∧ Below w.heap.size w wr)
  (fun i _ => zs.length - (intOf i).toNat)
 case atStart => exact ⟨0, Nat.zero_le _, rfl, hrow.congr (by simp), qb⟩
 case round =>
  obtain ⟨k, hk, rfl, hr, hb⟩ := hrel
  by_cases hlt : k < zs.length
  · obtain ⟨b, off, rfl, hbB, qc⟩ := hA (by omega)
    have hzk := hz.at hlt
    have hck : wr.cell? ⟨b, off + k, none⟩ = some (.int .i16 (zs.getD k 0)) := (hb.cell (p := ⟨b, off + k, none⟩) hbB).trans (qc k hlt)
    have hcr : wr.cell? ⟨w.heap.size, k, none⟩ = some (.int .u8 0) := by rw [hr.cell hlt]; simp
    have hfr := hr.frozen k
    have hrl := hr.lt
    have hn1 : b ≠ w.heap.size := by omega
    have hn2 : w.heap.size ≠ b := by omega
    have HR := H9 hr
    have hbs := hb.size
    clear hr qc hrow qb hmk
    generalize hzz : zs.getD k 0 = z at hck hzk
    have HZ := H9 hzz
    clear hzz
    obtain ⟨hz1, hz2⟩ := hzk
    have hi0 : (0 : Int) ≤ (k : Int) := by omega
    have hi1 : (k : Int) < (zs.length : Int) := by omega
    have hna := zop
    have hme := zoq
    go_wp2
    go_region_held3 (fun w' => w'.cell? ⟨b, off + k, none⟩ = some (.int .i16 z)) (go_keep)
     (first | (go_at_call 187; refine (zub _ _ (by omega) (by omega)).mono ?_; rintro e w' ⟨rfl, rfl⟩) | fail)
    go_wp2
    go_roundw
    case rel =>
     refine ⟨k + 1, by omega, by go_num, ?_, ((hb.setCell (Nat.le_refl _) _).alloc (by simpa using hbs) _).drew⟩
     rw [← HZ.out]
     exact (zby (g := fun j => Cmp.aZ (zs.getD j 0)) HR.out).alloc _
    case measure => simp [intOf]; omega
  · obtain rfl : k = zs.length := by omega
    have HR := H9 hr
    clear hr hrow qb hmk
    go_wp2
    go_ret2
    exact ⟨_, rfl, ⟨IntsAt.of_fill HR.out, fun _ b' o' e => by cases e; exact Nat.le_refl _⟩, hb⟩
end
attribute [local go_sem] zab zag
section
variable (l s n : Int) (w : World)
def NoiseN (a s : Int) (m : Nat) (w : World) (e : Ending) (w' : World) : Prop :=
 ∃ (A' : Option Addr) (c' : Nat), e = .returned (.tuple #[.slice A' m c', .int .u32 (Ev.seed s m), .int .u8 0]) ∧ IntsNew w.heap.size w' .i16 A' ((List.range m).map fun k => Ev.nsamp a s k) ∧ Below w.heap.size w w'
theorem zot (m : Nat) (h0 : 0 ≤ l) (h1 : l ≤ 255) (s0 : 0 ≤ s) (s1 : s ≤ 4294967295) (hm : m ≤ 8000) :
 Calls Tryz.prog 155 #[.int .u8 l, .int .u32 s, .int .i64 m] w (NoiseN (Ev.amp (l / 6).toNat) s m w) := by
 obtain ⟨p, hp⟩ := Int.eq_ofNat_of_zero_le (a := l / 6) (by omega)
 have hsh : (32767 : Int) / 2 ^ p = Ev.amp p := Ev.amp_pow ⟨p, by omega⟩
 have hmk := run_make_row' (P := Tryz.prog) 66 93 (.int .i16 0) 2 Tryz.underlying66 Ev.info_i16 rfl .i64 .i64 m (by omega) (by omega) w
 obtain ⟨W1, hW1⟩ : ∃ W1, W1 = w.alloc (.cells (madeCells #[.int .i16 0] m) 93) := ⟨_, rfl⟩
 have hrow : W1.rowIs w.heap.size 93 m (fun _ => .int .i16 0) := by rw [hW1]; exact World.rowIs_made w _ _ _
 have qb : Below w.heap.size w W1 := by rw [hW1]; exact (Below.refl _ _).alloc (Nat.le_refl _) _
 rw [← hW1] at hmk
 clear hW1
 rw [hp, Int.toNat_natCast]
 have ha := Ev.amp_bd p
 obtain ⟨a0, a1⟩ := ha
 generalize Ev.amp p = a at *
 go_enter Tryz.func155, Tryz.ntmps155
 go_wp2
 go_loopw [1, 24] (fun sd i wr => ∃ k : Nat, k ≤ m ∧ i = .int .i64 k ∧ sd = .int .u32 (Ev.seed s k) ∧ wr.rowIs w.heap.size 93 m (fun j => .int .i16 (if j < k then Ev.nsamp a s j else 0)) ∧ Below w.heap.size w wr) (fun _ i _ => m - (intOf i).toNat)
 case atStart => exact ⟨0, Nat.zero_le _, rfl, rfl, hrow.congr (by simp), qb⟩
 case round =>
  obtain ⟨k, hk, rfl, rfl, hr, hb⟩ := hrel
  clear hrow qb hmk
  by_cases hlt : k < m
  · have hcr : wr.cell? ⟨w.heap.size, k, none⟩ = some (.int .i16 0) := by rw [hr.cell hlt]; simp
    have hfr := hr.frozen k
    have hsb := Ev.seed_bd s s0 s1 k
    obtain ⟨b0, b1⟩ := hsb
    have hss : Ev.seed s (k + 1) = (Ev.seed s k * 1103515245 + 12345) % 4294967296 := rfl
    have hns : Ev.nsamp a s k = Ev.seed s (k + 1) / 65536 % (2 * a + 1) - a := rfl
    have hnb := Ev.nsamp_bd a s a0 k
    have HR := H9 hr
    have HSS := H9 hss
    have HNS := H9 hns
    have HNB := H9 hnb
    have hi0 : (0 : Int) ≤ (k : Int) := by omega
    have hi1 : (k : Int) < (m : Int) := by omega
    clear hr hss hns hnb
    generalize Ev.seed s k = x at *
    have hv : IntKind.i16.wrap (wrap64 ((1103515245 * x + 12345) % 4294967296 / 65536 % (2 * a + 1) - a)) = Ev.nsamp a s k := by
     have h1 := HNB.out
     rw [HNS.out, HSS.out, show x * 1103515245 + 12345 = 1103515245 * x + 12345 by omega] at h1 ⊢
     rw [IntWalk.wrap64_in _ ⟨by omega, by omega⟩]
     simp only [IntKind.wrap, IntKind.bits, IntKind.signed]
     simp
     omega
    have HV := H9 hv
    clear hv
    go_wp2
    go_roundw
    case rel =>
     refine ⟨k + 1, by omega, by go_num, ?_, ?_, hb.setCell (Nat.le_refl _) _⟩
     · rw [HSS.out]; congr 1; omega
     · rw [HV.out]; exact zby (g := fun j => Ev.nsamp a s j) HR.out
    case measure => simp [intOf]; omega
  · obtain rfl : k = m := by omega
    have HR := H9 hr
    clear hr
    go_wp2
    go_ret3
    refine ⟨_, _, rfl, ⟨?_, fun _ b' o' e => by cases e; exact Nat.le_refl _⟩, hb⟩
    refine IntsAt.of_row HR.out (by simp) fun i hi => ?_
    have hi' : i < k := by simpa using hi
    rw [if_pos hi']
    simp [List.getD_eq_getElem?_getD, List.getElem?_range hi']
end
section
theorem zmo (n : Nat) (A : Option Addr) (bs : List Int) (cap : Nat) (w : World) (hn : n ≤ 8000) (hn1 : 0 < n) (hA : IntsAt w w.heap.size .u8 A bs) (hz : Within 0 255 bs) (hok : Dlt.okB bs n) (hcap : bs.length ≤ cap) :
 Calls Tryz.prog 94 #[.slice A bs.length cap, .int .i64 n] w fun e w' => ∃ (A' : Option Addr) (c' : Nat), e = .returned (.tuple #[.slice A' n c', .agg #[.int .i64 (Dlt.dAt (Dlt.headS bs) bs n).1, .int .i64 (Dlt.dAt (Dlt.headS bs) bs n).2], .int .u8 0]) ∧
  IntsNew w.heap.size w' .i16 A' (Dlt.unpackL bs n) ∧ Below w.heap.size w w' := by
 have HVAL := H9 (Dlt.headS_valid bs n hok hz)
 obtain ⟨ok1, ok2, ok3, ok4⟩ := hok
 obtain ⟨b, off, rfl, hbB, qc⟩ := hA (by omega)
 have c0 := qc 0 (by omega)
 have c1 := qc 1 (by omega)
 have c2 := qc 2 (by omega)
 have c3 := qc 3 (by omega)
 have cl := qc (bs.length - 1) (by omega)
 obtain ⟨l0, l1⟩ := hz.at (i := bs.length - 1) (by omega)
 obtain ⟨a0, a1⟩ := hz.at (i := 0) (by omega)
 obtain ⟨b0, b1⟩ := hz.at (i := 1) (by omega)
 obtain ⟨g0, g1⟩ := hz.at (i := 2) (by omega)
 have hb' : b ≠ w.heap.size := by omega
 have hb'' : b ≠ w.heap.size + 1 := by omega
 generalize hx0 : bs.getD 0 0 = x0 at *
 generalize hx1 : bs.getD 1 0 = x1 at *
 generalize hx2 : bs.getD 2 0 = x2 at *
 generalize hx3 : bs.getD 3 0 = x3 at *
 have HX3 := H9 (show bs.getD 3 0 = 0 by rw [hx3, ok3])
 subst ok3
 generalize bs.getD (bs.length - 1) 0 = xl at *
 have HX0 := H9 hx0
 have HX1 := H9 hx1
 have HX2 := H9 hx2
 have HCELL := H9 qc
 have HZ := H9 hz
 generalize hM : bs.length = M at *
 have HMM := H9 hM
 clear hA hz qc hx0 hx1 hx2 hM
 have hM4 : (4 : Int) ≤ (M : Int) := by omega
 have hM2 : (2 : Int) < (M : Int) := by omega
 have hM3 : (3 : Int) < (M : Int) := by omega
 have hM1 : (1 : Int) < (M : Int) := by omega
 have hM0 : (0 : Int) < (M : Int) := by omega
 have hl0 : (0 : Int) ≤ (M : Int) - 1 := by omega
 have hl1 : (M : Int) - 1 < (M : Int) := by omega
 have hl2 : ((M : Int) - 1).toNat = M - 1 := by omega
 have cc0 : (w.alloc (.cells #[.int .i64 0, .int .i64 0] 24)).cell? ⟨b, off, none⟩ = some (.int .u8 x0) := (World.cell?_alloc_lt w _ _ hbB).trans c0
 have cc1 : (w.alloc (.cells #[.int .i64 0, .int .i64 0] 24)).cell? ⟨b, off + 1, none⟩ = some (.int .u8 x1) := (World.cell?_alloc_lt w _ _ hbB).trans c1
 have cc2 : (w.alloc (.cells #[.int .i64 0, .int .i64 0] 24)).cell? ⟨b, off + 2, none⟩ = some (.int .u8 x2) := (World.cell?_alloc_lt w _ _ hbB).trans c2
 have cc3 : (w.alloc (.cells #[.int .i64 0, .int .i64 0] 24)).cell? ⟨b, off + 3, none⟩ = some (.int .u8 0) := (World.cell?_alloc_lt w _ _ hbB).trans c3
 have ccl : (w.alloc (.cells #[.int .i64 0, .int .i64 0] 24)).cell? ⟨b, off + (M - 1), none⟩ = some (.int .u8 xl) := (World.cell?_alloc_lt w _ _ hbB).trans cl
 have cd0 : ((w.alloc (.cells #[.int .i64 0, .int .i64 0] 24)).alloc (.cells #[.int .i64 0, .int .i64 0] 24)).cell? ⟨b, off, none⟩ = some (.int .u8 x0) := (World.cell?_alloc_lt _ _ _ (by simp; omega)).trans ((World.cell?_alloc_lt w _ _ hbB).trans c0)
 have cd1 : ((w.alloc (.cells #[.int .i64 0, .int .i64 0] 24)).alloc (.cells #[.int .i64 0, .int .i64 0] 24)).cell? ⟨b, off + 1, none⟩ = some (.int .u8 x1) := (World.cell?_alloc_lt _ _ _ (by simp; omega)).trans ((World.cell?_alloc_lt w _ _ hbB).trans c1)
 have cd2 : ((w.alloc (.cells #[.int .i64 0, .int .i64 0] 24)).alloc (.cells #[.int .i64 0, .int .i64 0] 24)).cell? ⟨b, off + 2, none⟩ = some (.int .u8 x2) := (World.cell?_alloc_lt _ _ _ (by simp; omega)).trans ((World.cell?_alloc_lt w _ _ hbB).trans c2)
 clear c0 c1 c2 c3 cl
 obtain ⟨N, hN⟩ : ∃ N, N = 4 + (n + 1) / 2 := ⟨_, rfl⟩
 obtain rfl : M = N := by omega
 have HS := H9 hN.symm
 have h5 : 5 ≤ M := by omega
 have h5' : M ≤ 4005 := by omega
 clear hN ok1
 have hpar : (n : Int) % 2 = 0 ∨ ((n : Int) % 2 = 1 ∧ (xl % 16 != 0) = false) := by
  by_cases h : n % 2 = 1
  · exact .inr ⟨by omega, by have := ok4 h; simp [this]⟩
  · exact .inl (by omega)
 clear ok4
 go_enter Tryz.func94, Tryz.ntmps94
 go_wp2_with fail
 refine (zbb n _ hn).mono ?_
 rintro e w' ⟨rfl, rfl⟩
 rw [HS.out]
 go_wp2_with fail
 refine (zbb n _ hn).mono ?_
 rintro e w' ⟨rfl, rfl⟩
 rw [HS.out]
 have HI2 := H9 zhc
 have hz89 := zjy
 rcases hpar with hp | ⟨hp, hq⟩
 all_goals
  go_wp2_with fail
  go_region
  go_wp2_with fail
  have hhw := zig x0 x1 a0 a1 b0 b1
  generalize wrap64 (IntKind.i16.wrap (bits BinOp.or IntKind.u16 (x0 * 256) x1)) = V0 at *
  refine (zeo _).mono ?_
  rintro e w3 ⟨rfl, hb3⟩
  have b0 : Blk ((w.alloc (.cells #[.int .i64 0, .int .i64 0] 24)).alloc (.cells #[.int .i64 V0, .int .i64 x2] 24)).drew w.heap.size 24 #[.int .i64 0, .int .i64 0] := ((Blk.new w _ _).alloc _).drew
  have b1 : Blk ((w.alloc (.cells #[.int .i64 0, .int .i64 0] 24)).alloc (.cells #[.int .i64 V0, .int .i64 x2] 24)).drew (w.heap.size + 1) 24 #[.int .i64 V0, .int .i64 x2] := by
   have h := Blk.new (w.alloc (.cells #[.int .i64 0, .int .i64 0] 24)) 24 #[.int .i64 V0, .int .i64 x2]
   rw [show (w.alloc (.cells #[.int .i64 0, .int .i64 0] 24)).heap.size = w.heap.size + 1 by simp] at h
   exact h.drew
  have hbw : Below w.heap.size w ((w.alloc (.cells #[.int .i64 0, .int .i64 0] 24)).alloc (.cells #[.int .i64 V0, .int .i64 x2] 24)).drew := (((Below.refl _ w).alloc (Nat.le_refl _) _).alloc (by simp) _).drew
  have hs3 : w.heap.size + 1 + 1 ≤ w3.heap.size := by have := hb3.size; simpa using this
  have HB0 := H9 ((b0.later hb3).later (zbk w3))
  have HB1 := H9 ((b1.later hb3).later (zbk w3))
  have HBW := H9 ((hbw.trans (hb3.mono hbw.size)).trans ((zbk w3).mono (by omega)))
  have HST := H9 (zed w3)
  have HT := H9 (zdc w3)
  have HSZ := H9 (zfj w3)
  have hmk := run_make_row' (P := Tryz.prog) 66 93 (.int .i16 0) 2 Tryz.underlying66 zor rfl .i64 .i64 n (by omega) (by omega) (laidW w3)
  clear b0 b1 hbw hb3 cc0 cc1 cc2 cc3 ccl cd0 cd1 cd2
  go_wp2_with (first
   | (refine wpList_store_mid rfl 198 (.tmp 9) (.tmp 82) (by rfl) w3.heap.size 0 Dlt.szA (by rfl) (by rfl) HT.out HI2.out zju ?_; change wpList _ _ _ _ _ (laidW w3); generalize laidW w3 = W4 at *; generalize w3.heap.size = gt at *; clear hz89 HT HI2)
   | fail)
  have HH : Hid (Dlt.headS bs = (V0, x2)) := H9 (by unfold Dlt.headS; rw [HX0.out, HX1.out, HX2.out, hhw])
  have HSV0 : Hid (Dlt.valid V0 x2 = true) := H9 (by have h := HVAL.out; rw [HH.out] at h; exact h)
  generalize hr : W4.heap.size = r at *
  have hs4 : w.heap.size + 1 + 1 ≤ r := by have := HSZ.out; omega
  have HSZ' := H9 HSZ.out
  clear hmk hhw
  go_loopw [86] (fun q wr => ∃ k : Nat, k ≤ n ∧ q = .int .i64 k ∧ Blk wr w.heap.size 24 #[.int .i64 0, .int .i64 0] ∧
   Blk wr (w.heap.size + 1) 24 #[.int .i64 (Dlt.dAt (V0, x2) bs k).1, .int .i64 (Dlt.dAt (V0, x2) bs k).2] ∧
   wr.rowIs r 93 n (fun j => .int .i16 (if j < k then (Dlt.dAt (V0, x2) bs (j + 1)).1 else 0)) ∧ StepsAt wr gt ∧ Below w.heap.size w wr)
   (fun q _ => n - (intOf q).toNat)
  case atStart =>
   refine ⟨0, Nat.zero_le _, rfl, HB0.out.alloc _, HB1.out.alloc _, ?_, ?_, ?_⟩
   · have h := World.rowIs_made W4 (.int .i16 0) n 93
     rw [hr] at h
     exact h.congr fun j _ => by simp
   · exact HST.out.below ((Below.refl _ _).alloc (Nat.le_refl _) _)
   · exact HBW.out.alloc (by omega) _
  case round =>
   obtain ⟨k, hk, rfl, B0, B1, R, hst, hb⟩ := hrel
   clear HB0 HB1 HST HBW
   have HSV := H9 (Dlt.dAt_valid (V0, x2) HSV0.out bs k)
   have HNX : Hid (Dlt.dAt (V0, x2) bs (k + 1) = (Dlt.nextV (Dlt.dAt (V0, x2) bs k).1 (Dlt.dAt (V0, x2) bs k).2 (Dlt.nib bs k), Dlt.nextI (Dlt.dAt (V0, x2) bs k).2 (Dlt.nib bs k))) := H9 rfl
   by_cases hlt : k < n
   · have hM6 : 4 + k / 2 < M := by have := HS.out; omega
     have hck : wr.cell? ⟨b, off + 4 + k / 2, none⟩ = some (.int .u8 (bs.getD (4 + k / 2) 0)) := by
      rw [Nat.add_assoc]
      exact (hb.cell (p := ⟨b, off + (4 + k / 2), none⟩) hbB).trans (HCELL.out _ hM6)
     have hzk := HZ.out.at (i := 4 + k / 2) (by rw [HMM.out]; exact hM6)
     have hnib : Dlt.nib bs k = if k % 2 = 0 then bs.getD (4 + k / 2) 0 / 16 else bs.getD (4 + k / 2) 0 % 16 := rfl
     generalize bs.getD (4 + k / 2) 0 = x at hck hzk hnib
     obtain ⟨z0, z1⟩ := hzk
     generalize hc : Dlt.nib bs k = c at *
     generalize hV : (Dlt.dAt (V0, x2) bs k).1 = V at *
     generalize hI : (Dlt.dAt (V0, x2) bs k).2 = I at *
     have HC := H9 hnib
     have c0 := B1.at 0 _ rfl
     have c1 := B1.at 1 _ rfl
     have f0 := B1.frozen 0
     have f1 := B1.frozen 1
     have HB0 := H9 B0
     have HB1 := H9 B1
     have HR := H9 R
     have HST := H9 hst
     have HB := H9 hb
     have hn0 : (0 : Int) ≤ (k : Int) / 2 := by omega
     have hn2 : (k : Int) / 2 < ((M - 4 : Nat) : Int) := by omega
     have hk0 : (0 : Int) ≤ (k : Int) := by omega
     have hk1 : (k : Int) < (n : Int) := by omega
     clear B0 B1 R hst hb hV hI hc hnib
     by_cases hpar : k % 2 = 0
     · have hpar' : (k : Int) % 2 = 0 := by omega
       have hce : x / 16 % 16 = c := by have := HC.out; rw [if_pos hpar] at this; omega
       have HCE := H9 hce
       have z2 : 0 ≤ c := by omega
       have z3 : c ≤ 15 := by omega
       clear hpar hce
       go_wp2_with fail
       rw [HCE.out]
       refine (zdt gt V I c _ HST.out HSV.out z2 z3).mono ?_
       rintro e w6 ⟨rfl, hb6⟩
       have HB06 := H9 (HB0.out.later hb6)
       have HB16 := H9 (HB1.out.later hb6)
       have HR6 := H9 (zbp HR.out hb6 HR.out.lt)
       have HST6 := H9 (HST.out.below hb6)
       have HBW6 := H9 (HB.out.trans (hb6.mono HB.out.size))
       clear hb6 HB0 HB1 HR HST HB c0 c1 f0 f1 hck
       have c0 := HB16.out.at 0 _ rfl
       have c1 := HB16.out.at 1 _ rfl
       have f0 := HB16.out.frozen 0
       have f1 := HB16.out.frozen 1
       have hrc := HR6.out.cell (i := k) (by omega)
       have hrf := HR6.out.frozen k
       have hd1 : w.heap.size + 1 ≠ r := by omega
       have hd2 : r ≠ w.heap.size + 1 := by omega
       obtain ⟨nv0, nv1⟩ := Dlt.nextV_bd V I c
       go_wp2
       go_roundw
       case rel =>
        have h := zei hs3 HSZ'.out HB06.out HB16.out HR6.out HST6.out HBW6.out HNX.out
        exact ⟨k + 1, by omega, by go_num, h⟩
       case measure => simp [intOf]; omega
     · have hpar' : (k : Int) % 2 = 1 := by omega
       have hce : x % 16 = c := by have := HC.out; rw [if_neg hpar] at this; omega
       have HCE := H9 hce
       have z2 : 0 ≤ c := by omega
       have z3 : c ≤ 15 := by omega
       clear hpar hce
       go_wp2_with fail
       rw [HCE.out]
       refine (zdt gt V I c _ HST.out HSV.out z2 z3).mono ?_
       rintro e w6 ⟨rfl, hb6⟩
       have HB06 := H9 (HB0.out.later hb6)
       have HB16 := H9 (HB1.out.later hb6)
       have HR6 := H9 (zbp HR.out hb6 HR.out.lt)
       have HST6 := H9 (HST.out.below hb6)
       have HBW6 := H9 (HB.out.trans (hb6.mono HB.out.size))
       clear hb6 HB0 HB1 HR HST HB c0 c1 f0 f1 hck
       have c0 := HB16.out.at 0 _ rfl
       have c1 := HB16.out.at 1 _ rfl
       have f0 := HB16.out.frozen 0
       have f1 := HB16.out.frozen 1
       have hrc := HR6.out.cell (i := k) (by omega)
       have hrf := HR6.out.frozen k
       have hd1 : w.heap.size + 1 ≠ r := by omega
       have hd2 : r ≠ w.heap.size + 1 := by omega
       obtain ⟨nv0, nv1⟩ := Dlt.nextV_bd V I c
       go_wp2
       go_roundw
       case rel =>
        have h := zei hs3 HSZ'.out HB06.out HB16.out HR6.out HST6.out HBW6.out HNX.out
        exact ⟨k + 1, by omega, by go_num, h⟩
       case measure => simp [intOf]; omega
   · obtain rfl : k = n := by omega
     have HB0 := H9 B0
     have HB1 := H9 B1
     have HR := H9 R
     have HB := H9 hb
     have HHH := H9 (show Dlt.headS bs = (V0, x2) from HH.out)
     generalize hV : (Dlt.dAt (V0, x2) bs k).1 = V at *
     generalize hI : (Dlt.dAt (V0, x2) bs k).2 = I at *
     have HV := H9 hV
     have HI := H9 hI
     have c0 := B1.at 0 _ rfl
     have c1 := B1.at 1 _ rfl
     have d0 := B0.at 0 _ rfl
     have d1 := B0.at 1 _ rfl
     have f0 := B0.frozen 0
     have f1 := B0.frozen 1
     clear B0 B1 R hst hb hV hI
     go_wp2
     go_region
     go_wp2
     refine bodyPost_ret (v := .tuple #[.slice (some ⟨r, 0, none⟩) k k, .agg #[.int .i64 V, .int .i64 I], .int .u8 0]) (by simp [results, Tryz.results94, go_sem, d0, d1]) rfl ?_
     refine ⟨some ⟨r, 0, none⟩, k, by rw [HHH.out, HV.out, HI.out], ?_, ?_⟩
     · refine ⟨?_, fun _ b' o' e => by cases e; omega⟩
       refine IntsAt.of_row (((HR.out.setOther (by simp; omega) _).setOther (by simp; omega) _).drew) (by simp [Dlt.unpackL]) fun j hj => ?_
       have hj' : j < k := by simpa [Dlt.unpackL] using hj
       rw [if_pos hj', Dlt.unpackL, HHH.out]
       simp [List.getD_eq_getElem?_getD, List.getElem?_range hj']
     · exact ((HB.out.setCell (by simp) _).setCell (by simp) _).drew
end
end Go.Proofs.YtahbecinkciahaaGreat
namespace Go.Proofs.YtahbecinkciahaaGreat
attribute [local go_sem ↓] zac zad
attribute [local go_sem] zab zag
open Go.RowKit
def EncR (bs : List Int) (s : Int × Int) (w : World) (e : Ending) (w' : World) : Prop := ∃ (A' : Option Addr) (c' : Nat), e = .returned (.tuple #[.slice A' bs.length c', .agg #[.int .i64 s.1, .int .i64 s.2], .int .u8 0]) ∧ IntsNew w.heap.size w' .u8 A' bs ∧ Below w.heap.size w w'
theorem ztx (v i : Int) (A : Option Addr) (zs : List Int) (c b : Nat) (w : World) (hA : IntsAt w w.heap.size .i16 A zs) (hz : Within (-32768) 32767 zs) (h8 : zs.length ≤ 8000) (hb : Blk w b 5 #[.int .u8 1]) : Calls Tryz.prog 136 #[.agg #[.int .i64 v, .int .i64 i], .slice A zs.length c, .pointer (some ⟨b, 0, none⟩)] w (EncR (zs.map Cmp.muZ) (v, i) w) := by
 have k1 := H9 fun (W : World) hW => zqt A zs c W hW hz h8
 have U0 := H9 (((Bel.refl w).push (.cells #[.int .i64 v, .int .i64 i] 24)).push (.cells #[.int .i64 0, .int .i64 0] 24))
 have BS := H9 ((Blk.new w 24 #[.int .i64 v, .int .i64 i]).push (.cells #[.int .i64 0, .int .i64 0] 24))
 have BR := H9 (Blk.new1 w (.cells #[.int .i64 v, .int .i64 i] 24) 24 #[.int .i64 0, .int .i64 0])
 have IA := H9 ((hA.push (.cells #[.int .i64 v, .int .i64 i] 24)).push (.cells #[.int .i64 0, .int .i64 0] 24))
 have BB := H9 ((hb.push (.cells #[.int .i64 v, .int .i64 i] 24)).push (.cells #[.int .i64 0, .int .i64 0] 24))
 have hlt := hb.lt
 clear hA hb hz
 go_enter Tryz.func136, Tryz.ntmps136
 have d0 := BB.out.at 0 _ rfl
 go_wp2_with fail
 refine (k1.out _ IA.out).mono ?_
 rintro e w1 ⟨A1, rfl, hI, hb1⟩
 have U1 := H9 (U0.out.later hb1)
 have BS1 := H9 (BS.out.later hb1)
 have BR1 := H9 (BR.out.later hb1)
 have HI := H9 hI
 clear hb1 hI d0
 have c0 := BS1.out.at 0 _ rfl
 have c1 := BS1.out.at 1 _ rfl
 have r0 := BR1.out.at 0 _ rfl
 have r1 := BR1.out.at 1 _ rfl
 have rz := BR1.out.frozen
 go_upto_region 2 with fail
 go_region
 have RF := BR1.out.set_ 0 (.int .i64 v)
 have RG := RF.set_ 1 (.int .i64 i)
 have q1 := RF.at 1 _ rfl
 have RI : IntsNew w.heap.size ((w1.setCell ⟨w.heap.size + 1, 0, none⟩ (.int .i64 v)).setCell ⟨w.heap.size + 1, 1, none⟩ (.int .i64 i)) .u8 A1 _ := ((HI.out.setCell (p := ⟨w.heap.size + 1, 0, none⟩) (by simp) (.int .i64 v)).setCell (p := ⟨w.heap.size + 1, 1, none⟩) (by simp) (.int .i64 i)).less (by simp; omega)
 have UF : Bel w ((w1.setCell ⟨w.heap.size + 1, 0, none⟩ (.int .i64 v)).setCell ⟨w.heap.size + 1, 1, none⟩ (.int .i64 i)) := zai (zai U1.out (by simp) _) (by simp) _
 go_wp2_with fail
 refine bodyPost_ret (v := .tuple #[.slice A1 zs.length zs.length, .agg #[.int .i64 v, .int .i64 i], .int .u8 0]) (zfe Tryz.results136 rfl rfl (run_loadVar_row (P := Tryz.prog) _ _ _ _ _ _ _ RG.drew Tryz.underlying24 rfl (by kernel_rfl)) rfl) rfl ⟨A1, zs.length, by rw [List.length_map], ?_, UF.drew⟩
 exact RI
theorem zuc (v i : Int) (A : Option Addr) (zs : List Int) (c b : Nat) (w : World) (hA : IntsAt w w.heap.size .i16 A zs) (hz : Within (-32768) 32767 zs) (h8 : zs.length ≤ 8000) (hb : Blk w b 5 #[.int .u8 2]) : Calls Tryz.prog 136 #[.agg #[.int .i64 v, .int .i64 i], .slice A zs.length c, .pointer (some ⟨b, 0, none⟩)] w (EncR (zs.map Cmp.aZ) (v, i) w) := by
 have k1 := H9 fun (W : World) hW => zso A zs c W hW hz h8
 have U0 := H9 (((Bel.refl w).push (.cells #[.int .i64 v, .int .i64 i] 24)).push (.cells #[.int .i64 0, .int .i64 0] 24))
 have BS := H9 ((Blk.new w 24 #[.int .i64 v, .int .i64 i]).push (.cells #[.int .i64 0, .int .i64 0] 24))
 have BR := H9 (Blk.new1 w (.cells #[.int .i64 v, .int .i64 i] 24) 24 #[.int .i64 0, .int .i64 0])
 have IA := H9 ((hA.push (.cells #[.int .i64 v, .int .i64 i] 24)).push (.cells #[.int .i64 0, .int .i64 0] 24))
 have BB := H9 ((hb.push (.cells #[.int .i64 v, .int .i64 i] 24)).push (.cells #[.int .i64 0, .int .i64 0] 24))
 have hlt := hb.lt
 clear hA hb hz
 go_enter Tryz.func136, Tryz.ntmps136
 have d0 := BB.out.at 0 _ rfl
 go_wp2_with fail
 refine (k1.out _ IA.out).mono ?_
 rintro e w1 ⟨A1, rfl, hI, hb1⟩
 have U1 := H9 (U0.out.later hb1)
 have BS1 := H9 (BS.out.later hb1)
 have BR1 := H9 (BR.out.later hb1)
 have HI := H9 hI
 clear hb1 hI d0
 have c0 := BS1.out.at 0 _ rfl
 have c1 := BS1.out.at 1 _ rfl
 have r0 := BR1.out.at 0 _ rfl
 have r1 := BR1.out.at 1 _ rfl
 have rz := BR1.out.frozen
 go_upto_region 2 with fail
 go_region
 have RF := BR1.out.set_ 0 (.int .i64 v)
 have RG := RF.set_ 1 (.int .i64 i)
 have q1 := RF.at 1 _ rfl
 have RI : IntsNew w.heap.size ((w1.setCell ⟨w.heap.size + 1, 0, none⟩ (.int .i64 v)).setCell ⟨w.heap.size + 1, 1, none⟩ (.int .i64 i)) .u8 A1 _ := ((HI.out.setCell (p := ⟨w.heap.size + 1, 0, none⟩) (by simp) (.int .i64 v)).setCell (p := ⟨w.heap.size + 1, 1, none⟩) (by simp) (.int .i64 i)).less (by simp; omega)
 have UF : Bel w ((w1.setCell ⟨w.heap.size + 1, 0, none⟩ (.int .i64 v)).setCell ⟨w.heap.size + 1, 1, none⟩ (.int .i64 i)) := zai (zai U1.out (by simp) _) (by simp) _
 go_wp2_with fail
 refine bodyPost_ret (v := .tuple #[.slice A1 zs.length zs.length, .agg #[.int .i64 v, .int .i64 i], .int .u8 0]) (zfe Tryz.results136 rfl rfl (run_loadVar_row (P := Tryz.prog) _ _ _ _ _ _ _ RG.drew Tryz.underlying24 rfl (by kernel_rfl)) rfl) rfl ⟨A1, zs.length, by rw [List.length_map], ?_, UF.drew⟩
 exact RI
end Go.Proofs.YtahbecinkciahaaGreat
namespace Go.Proofs.YtahbecinkciahaaGreat
open Go.RowKit
theorem zau {P : Program} {ops : Array Oper} {o : Oper} {a : Act} {S : World → Prop} (hgd : o.guard = none) (ty : TypeId) (x : Operand) (ho : o.op = .load ty x) (g i : Nat) (hx : a.eval x = .pointer (some ⟨g, i, none⟩)) (t : TypeId) (cs : List Value) (hg : ∀ w, S w → Blk w g t cs.toArray) (n : Nat) (d : TypeDesc) (hu : P.underlying ty = some d) (hi : (P.info? ty).map (·.size) = some n) (hn : i + n ≤ cs.length) (vs : Array Value) (hv : (partS cs i n).toArray = vs) (hd : aggT d = true) : YieldsIf P ops S o (.agg vs) a := by
 subst hv
 refine Or.inl ⟨by simp [Region.wanted, hgd], fun w hS => ?_⟩
 unfold execOp
 simp only [ho, hx, Instr.loadAt, Instr.sureAddr, Sem.run_bind, Sem.run_pure, Result.andThen_ok, zbo (hg w hS) i n hd hu hi hn]
theorem zan {P : Program} {ops : Array Oper} {o : Oper} {a : Act} {w : World} {K : Act → World → Prop} {Q : Exit → Act → World → Prop} {E : Prop} (hgd : o.guard = none) (ty : TypeId) (x y : Operand) (ho : o.op = .store ty x y) (g i : Nat) (hx : a.eval x = .pointer (some ⟨g, i, none⟩)) (t : TypeId) (cs : List Value) (hg : Blk w g t cs.toArray) (vs : List Value) (hy : a.eval y = .agg vs.toArray) (hi : (P.info? ty).map (·.size) = some vs.length) (hn : i + vs.length ≤ cs.length) (h1 : vs.all (·.oneCell') = true) (cs' : List Value) (hc : overS cs i vs = cs')
 (h : ∀ W, Blk W g t cs'.toArray → OnlyB g w W → K (a.put o.dst undef) W) : if Region.wanted o (yielded ops a.tmps) = true then Oper.wp P o a w K Q else E := by
 subst hc
 rw [if_pos (by simp [Region.wanted, hgd])]
 unfold Oper.wp execOp
 simp only [ho, hx, hy, Instr.storeAt, Instr.sureAddr, Sem.run_bind, Sem.run_pure, Result.andThen_ok, zcq hg i vs hi hn h1]
 unfold Oper.upon
 exact h _ (setRow_heap w g _ _ t _ hg) (OnlyB.setRow w g _)
theorem Blk.dr {W : World} {g : Nat} {t : TypeId} {cs : Array Value} (h : Blk W g t cs) : Blk W.drew g t cs := h
end Go.Proofs.YtahbecinkciahaaGreat
namespace Go.Proofs.YtahbecinkciahaaGreat
attribute [local go_sem ↓] zac zad
attribute [local go_sem] zab zag
open Go.RowKit
section
variable (q : Int) (A : Option Addr) (zs : List Int) (cap : Nat) (w : World)
theorem zjw (q0 : -9223372036854775808 ≤ q) (q1 : q ≤ 9223372036854775807) (hA : IntsAt w w.heap.size .i16 A zs) (hz : Within (-32768) 32767 zs) (hl : zs.length ≤ 8000) :
 Calls Tryz.prog 72 #[.agg #[.int .i64 q], .slice A zs.length cap] w fun e w' => e = .returned (.tuple #[.agg #[.int .i64 (Ev.quiet q zs)], .bool (Ev.quiet q zs == 10)]) ∧ Below w.heap.size w w' := by
 have k1 := H9 fun W h => zif A zs cap W h hz hl
 obtain ⟨R, hR⟩ : ∃ R, R = Ev.quiet q zs := ⟨_, rfl⟩
 rw [← hR]
 unfold Ev.quiet at hR
 have hb := Ev.lev_bd zs hz
 have IA := H9 ((hA.push (.cells #[.int .i64 q] 33)).push (.cells #[.int .i64 0] 33))
 generalize Ev.lev zs = L at *
 clear hz hA
 by_cases hL : L < 60
 · rw [if_pos hL] at hR
   subst hR
   go_enter Tryz.func72, Tryz.ntmps72
   go_wp2_with (go_at_call 75; refine (k1.out _ IA.out).mono ?_; rintro e w1 ⟨rfl, rfl⟩)
   refine bodyPost_ret (v := .tuple #[.agg #[.int .i64 0], .bool ((0 : Int) == 10)]) (by simp [results, Tryz.results72, go_sem]) rfl ⟨rfl, ?_⟩
   repeat (first | exact Below.refl _ _ | refine Below.drew ?_ | refine Below.setCell ?_ (by simp) _ | refine Below.alloc ?_ (by simp; try omega) _)
 · rw [if_neg hL] at hR
   have hL' : decide (L < 60) = false := by simpa using hL
   have HR := H9 hR
   clear hR hL
   go_enter Tryz.func72, Tryz.ntmps72
   go_wp2_with (go_at_call 75; refine (k1.out _ IA.out).mono ?_; rintro e w1 ⟨rfl, rfl⟩)
   refine bodyPost_ret (v := .tuple #[.agg #[.int .i64 R], .bool (R == 10)]) (by rw [HR.out]; simp [results, Tryz.results72, go_sem]) rfl ⟨rfl, ?_⟩
   repeat (first | exact Below.refl _ _ | refine Below.drew ?_ | refine Below.setCell ?_ (by simp) _ | refine Below.alloc ?_ (by simp; try omega) _)
theorem zej (q0 : -9223372036854775808 ≤ q) (q1 : q ≤ 9223372036854775807) (hA : IntsAt w w.heap.size .i16 A zs) (hz : Within (-32768) 32767 zs) (hl : zs.length ≤ 8000) :
 Calls Tryz.prog 79 #[.agg #[.int .i64 q], .slice A zs.length cap] w fun e w' => e = .returned (.tuple #[.agg #[.int .i64 (Ev.quiet q zs)], .bool (Ev.quiet q zs == 10)]) ∧ Below w.heap.size w w' := by
 have k1 := H9 fun W h => zfz A zs cap W h hz hl
 obtain ⟨R, hR⟩ : ∃ R, R = Ev.quiet q zs := ⟨_, rfl⟩
 rw [← hR]
 unfold Ev.quiet at hR
 have hb := Ev.lev_bd zs hz
 have IA := H9 ((hA.push (.cells #[.int .i64 q] 33)).push (.cells #[.int .i64 0] 33))
 generalize Ev.lev zs = L at *
 clear hz hA
 have fin : ∀ (w1 : World), Below ((w.alloc (.cells #[.int .i64 q] 33)).alloc (.cells #[.int .i64 0] 33)).heap.size ((w.alloc (.cells #[.int .i64 q] 33)).alloc (.cells #[.int .i64 0] 33)) w1 → Hid (Blk w1 w.heap.size 33 #[.int .i64 q]) ∧ Hid (Blk w1 (w.heap.size + 1) 33 #[.int .i64 0]) ∧ Hid (Bel w w1) := fun w1 hb =>
  ⟨H9 (((Blk.new w 33 #[.int .i64 q]).push (.cells #[.int .i64 0] 33)).later hb), H9 ((Blk.new1 w (.cells #[.int .i64 q] 33) 33 #[.int .i64 0]).later hb), H9 ((((Bel.refl w).push _).push _).later hb)⟩
 have hcases : L < 60 ∨ (60 ≤ L ∧ q < 0) ∨ (60 ≤ L ∧ 0 ≤ q ∧ q < 10) ∨ (60 ≤ L ∧ q = 10) ∨ (60 ≤ L ∧ 10 < q) := by omega
 rcases hcases with h | ⟨h, h2⟩ | ⟨h, h2, h3⟩ | ⟨h, rfl⟩ | ⟨h, h2⟩
 · rw [if_pos h] at hR
   subst hR
   go_enter Tryz.func79, Tryz.ntmps79
   go_wp2_with fail
   refine (k1.out _ IA.out).mono ?_
   rintro e w1 ⟨rfl, hb1⟩
   obtain ⟨B0, B1, U⟩ := fin w1 hb1
   clear hb1 fin
   have d0 := B1.out.at 0 _ rfl
   have d1 := B1.out.frozen 0
   go_wp2
   refine bodyPost_ret (v := .tuple #[.agg #[.int .i64 0], .bool ((0 : Int) == 10)]) (by simp [results, Tryz.results79, go_sem, d0]) rfl ⟨rfl, ?_⟩
   exact Below.setCell U.out (by simp) _
 · rw [if_neg (by omega)] at hR
   obtain rfl : R = 1 := by omega
   clear hR
   go_enter Tryz.func79, Tryz.ntmps79
   go_wp2_with fail
   refine (k1.out _ IA.out).mono ?_
   rintro e w1 ⟨rfl, hb1⟩
   obtain ⟨B0, B1, U⟩ := fin w1 hb1
   clear hb1 fin
   have d0 := B1.out.at 0 _ rfl
   have d1 := B1.out.frozen 0
   have d2 := B0.out.at 0 _ rfl
   have d3 := B0.out.frozen 0
   go_wp2
   all_goals go_region
   all_goals go_wp2
   all_goals refine bodyPost_ret (v := .tuple #[.agg #[.int .i64 (1)], .bool ((1 : Int) == 10)]) (by simp [results, Tryz.results79, go_sem, d0]) rfl ⟨rfl, ?_⟩
   all_goals repeat (first | exact U.out | refine Below.drew ?_ | refine Below.setCell ?_ (by simp) _)
 · rw [if_neg (by omega)] at hR
   obtain rfl : R = q + 1 := by omega
   clear hR
   go_enter Tryz.func79, Tryz.ntmps79
   go_wp2_with fail
   refine (k1.out _ IA.out).mono ?_
   rintro e w1 ⟨rfl, hb1⟩
   obtain ⟨B0, B1, U⟩ := fin w1 hb1
   clear hb1 fin
   have d0 := B1.out.at 0 _ rfl
   have d1 := B1.out.frozen 0
   have d2 := B0.out.at 0 _ rfl
   have d3 := B0.out.frozen 0
   go_wp2
   all_goals go_region
   all_goals go_wp2
   all_goals refine bodyPost_ret (v := .tuple #[.agg #[.int .i64 (q + 1)], .bool ((q + 1 : Int) == 10)]) (by simp [results, Tryz.results79, go_sem, d0]) rfl ⟨rfl, ?_⟩
   all_goals repeat (first | exact U.out | refine Below.drew ?_ | refine Below.setCell ?_ (by simp) _)
 · rw [if_neg (by omega)] at hR
   obtain rfl : R = 10 := by omega
   clear hR
   go_enter Tryz.func79, Tryz.ntmps79
   go_wp2_with fail
   refine (k1.out _ IA.out).mono ?_
   rintro e w1 ⟨rfl, hb1⟩
   obtain ⟨B0, B1, U⟩ := fin w1 hb1
   clear hb1 fin
   have d0 := B1.out.at 0 _ rfl
   have d1 := B1.out.frozen 0
   have d2 := B0.out.at 0 _ rfl
   have d3 := B0.out.frozen 0
   go_wp2
   all_goals go_region
   all_goals go_wp2
   all_goals refine bodyPost_ret (v := .tuple #[.agg #[.int .i64 (10)], .bool ((10 : Int) == 10)]) (by simp [results, Tryz.results79, go_sem, d0]) rfl ⟨rfl, ?_⟩
   all_goals repeat (first | exact U.out | refine Below.drew ?_ | refine Below.setCell ?_ (by simp) _)
 · rw [if_neg (by omega)] at hR
   obtain rfl : R = 10 := by omega
   clear hR
   go_enter Tryz.func79, Tryz.ntmps79
   go_wp2_with fail
   refine (k1.out _ IA.out).mono ?_
   rintro e w1 ⟨rfl, hb1⟩
   obtain ⟨B0, B1, U⟩ := fin w1 hb1
   clear hb1 fin
   have d0 := B1.out.at 0 _ rfl
   have d1 := B1.out.frozen 0
   have d2 := B0.out.at 0 _ rfl
   have d3 := B0.out.frozen 0
   go_wp2
   all_goals go_region
   all_goals go_wp2
   all_goals refine bodyPost_ret (v := .tuple #[.agg #[.int .i64 (10)], .bool ((10 : Int) == 10)]) (by simp [results, Tryz.results79, go_sem, d0]) rfl ⟨rfl, ?_⟩
   all_goals repeat (first | exact U.out | refine Below.drew ?_ | refine Below.setCell ?_ (by simp) _)
end
structure TK where
 k : Sb.Pkt
 B : Option Addr
 c : Nat
def TK.row (a : TK) : List Value := pktRow a.k a.B a.c
def Pks (w : World) (n : Nat) (A : Option Addr) (l : List TK) : Prop := RowsAt w n 11 TK.row A l ∧ ∀ a ∈ l, IntsAt w n .u8 a.B a.k.pl
theorem Pks.nil {w : World} {n : Nat} {A : Option Addr} : Pks w n A [] := ⟨fun h => absurd h (by simp), fun _ h => by cases h⟩
theorem Pks.keep {w w' : World} {n : Nat} {A : Option Addr} {l : List TK} (h : Pks w n A l) (hk : ∀ p : Addr, p.block < n → w'.cell? p = w.cell? p) : Pks w' n A l := ⟨h.1.keep hk, fun a ha => (h.2 a ha).keep hk⟩
theorem Pks.more {w : World} {n m : Nat} {A : Option Addr} {l : List TK} (h : Pks w n A l) (hm : n ≤ m) : Pks w m A l := ⟨h.1.more hm, fun a ha => (h.2 a ha).more hm⟩
theorem Pks.later {w w' : World} {A : Option Addr} {l : List TK} (h : Pks w w.heap.size A l) (hb : Below w.heap.size w w') : Pks w' w'.heap.size A l := (h.keep fun _ hp => hb.cell hp).more hb.size
theorem Pks.one {w : World} {base bc c : Nat} {A B : Option Addr} {k : Sb.Pkt} {pl : List Int} (ho : Owns w base 51 11 A 1 c (pktRow k B bc)) (hp : IntsAt w w.heap.size .u8 B pl) (hk : k.pl = pl) : Pks w w.heap.size A [⟨k, B, bc⟩] := by
 refine ⟨Owns.rows (l := [(⟨k, B, bc⟩ : TK)]) (row := TK.row) (by simpa [TK.row] using ho) rfl (fun a => rfl), fun a ha => ?_⟩
 obtain rfl := List.mem_singleton.1 ha
 show IntsAt w w.heap.size .u8 B k.pl
 rw [hk]; exact hp
def findRegS (i : Nat) : Code → Option Code
 | .region j ops d => if i = j then some (.region j ops d) else none
 | .seq a b => match findRegS i a with
   | some c => some c
   | none => findRegS i b
 | .cond _ a b => match findRegS i a with
   | some c => some c
   | none => findRegS i b
 | .block _ c => findRegS i c
 | .loop c => findRegS i c
 | .scope c => findRegS i c
 | _ => none
def PksN (n : Nat) (A : Option Addr) (l : List TK) : Prop := (0 < l.length → ∀ b off, A = some ⟨b, off, none⟩ → n ≤ b) ∧ ∀ a ∈ l, 0 < a.k.pl.length → ∀ b off, a.B = some ⟨b, off, none⟩ → n ≤ b
theorem PksN.nil {n : Nat} {A : Option Addr} : PksN n A [] := ⟨fun h => absurd h (by simp), fun _ h => by cases h⟩
theorem PksN.one {w : World} {n base bc c : Nat} {A B : Option Addr} {k : Sb.Pkt} {xs : List Value} (ho : Owns w base 51 11 A 1 c xs) (hb : n ≤ base) (hp : ∀ b off, B = some ⟨b, off, none⟩ → n ≤ b) : PksN n A [⟨k, B, bc⟩] := by
 refine ⟨fun _ b off e => ?_, fun a ha _ b off e => ?_⟩
 · have := (ho.block b (by rw [e]; rfl)).1
   omega
 · obtain rfl := List.mem_singleton.1 ha
   exact hp b off e
def SendR (R : Sb.Pt × List Sb.Pkt) (w : World) (e : Ending) (w' : World) : Prop :=
 ∃ (A' : Option Addr) (n' c' : Nat) (l' : List TW) (KA : Option Addr) (kc : Nat) (ks : List TK), e = .returned (.tuple #[.agg (PA R.1 A' n' c'), .slice KA ks.length kc, .int .u8 0]) ∧ ks.map TK.k = R.2 ∧ l'.map TW.w = R.1.jt.q ∧ l'.length = n' ∧ n' ≤ c' ∧ c' ≤ maxLen ∧ Wts w' w'.heap.size A' l' ∧ Pks w' w'.heap.size KA ks ∧ Below w.heap.size w w' ∧ PksN w.heap.size KA ks
theorem PM.drew {W : World} {S : List Nat} {g n c : Nat} {p : Sb.Pt} {A : Option Addr} {l : List TW} (h : PM W S g p A n c l) : PM W.drew S g p A n c l := ⟨h.box, h.q, h.len, h.cap, h.cm, ⟨h.qa.wts, h.qa.row, h.qa.pay⟩⟩
theorem QOwn.capm {w : World} {base n c : Nat} {A : Option Addr} {l : List TW} (h : QOwn w base A n c l) : n ≤ c ∧ c ≤ maxLen := ⟨h.own.cap, Owns.capm h.own⟩
end Go.Proofs.YtahbecinkciahaaGreat
namespace Go.Proofs.YtahbecinkciahaaGreat
open Go.RowKit
theorem zqu (v i : Int) (A : Option Addr) (zs : List Int) (cap : Nat) (w : World) (hv : Dlt.valid v i = true) (hA : IntsAt w w.heap.size .i16 A zs) (hz : Within (-32768) 32767 zs) (h8 : zs.length ≤ 8000) (h0 : 0 < zs.length) :
 Calls Tryz.prog 92 #[.agg #[.int .i64 v, .int .i64 i], .slice A zs.length cap] w fun e w' => ∃ (A' : Option Addr) (c' : Nat), e = .returned (.tuple #[.slice A' (4 + (zs.length + 1) / 2) c', .agg #[.int .i64 (Dlt.stAt (v, i) zs zs.length).1, .int .i64 (Dlt.stAt (v, i) zs zs.length).2], .int .u8 0]) ∧
  4 + (zs.length + 1) / 2 ≤ c' ∧ IntsNew w.heap.size w' .u8 A' (Dlt.packB (v, i) zs) ∧ Below w.heap.size w w' := by
 have hz89 := zjy
 have HI2 := H9 zhc
 obtain ⟨N, hN⟩ : ∃ N, N = 4 + (zs.length + 1) / 2 := ⟨_, rfl⟩
 have hN1 : 5 ≤ N := by omega
 have hN2 : N ≤ 4004 := by omega
 have HN := H9 hN
 clear hN
 obtain ⟨W0, hW0⟩ : ∃ W0, W0 = ((w.alloc (.cells #[.int .i64 v, .int .i64 i] 24)).alloc (.cells #[.int .i64 0, .int .i64 0] 24)).alloc (.cells #[.int .i64 v, .int .i64 i] 24) := ⟨_, rfl⟩
 obtain ⟨W1, hW1⟩ : ∃ W1, W1 = W0.alloc (.cells (madeCells #[.int .u8 0] N) 5) := ⟨_, rfl⟩
 have hs0 : W0.heap.size = w.heap.size + 1 + 1 + 1 := by rw [hW0]; simp
 have hs1 : W1.heap.size = w.heap.size + 1 + 1 + 1 + 1 := by rw [hW1]; simp [hs0]
 have B0 : Blk W1 w.heap.size 24 #[.int .i64 v, .int .i64 i] := by rw [hW1, hW0]; exact ((((Blk.new w _ _).alloc _).alloc _).alloc _)
 have B1 : Blk W1 (w.heap.size + 1) 24 #[.int .i64 0, .int .i64 0] := by
  have h := Blk.new (w.alloc (.cells #[.int .i64 v, .int .i64 i] 24)) 24 #[.int .i64 0, .int .i64 0]
  rw [show (w.alloc (.cells #[.int .i64 v, .int .i64 i] 24)).heap.size = w.heap.size + 1 by simp] at h
  rw [hW1, hW0]; exact ((h.alloc _).alloc _)
 have R : W1.rowIs (w.heap.size + 1 + 1 + 1) 5 N (fun _ => .int .u8 0) := by rw [hW1, ← hs0]; exact World.rowIs_made W0 _ _ _
 have hbw : Below w.heap.size w W1 := by
  rw [hW1, hW0]; exact ((((Below.refl _ w).alloc (Nat.le_refl _) _).alloc (by simp) _).alloc (by simp; omega) _).alloc (by simp; omega) _
 have hmk := run_make_row' (P := Tryz.prog) 22 5 (.int .u8 0) 1 Tryz.underlying22 zrc rfl .i64 .i64 N (by omega) (by omega) W0
 rw [← hW1, hs0, hW0] at hmk
 have c0 := B0.at 0 _ rfl
 have c1 := B0.at 1 _ rfl
 have r0 := R.cell (i := 0) (by omega)
 have r1 := R.cell (i := 1) (by omega)
 have r2 := R.cell (i := 2) (by omega)
 have q0 := R.frozen 0
 have q1 := R.frozen 1
 have q2 := R.frozen 2
 have HB0 := H9 B0
 have HB1 := H9 B1
 have HR := H9 R
 have HBW := H9 hbw
 have HS1 := H9 hs1
 clear hW1 hs0 hW0 hs1 B0 B1 R hbw
 have hi0 : (0 : Int) < (N : Int) := by omega
 have hi1 : (1 : Int) < (N : Int) := by omega
 have hi2 : (2 : Int) < (N : Int) := by omega
 go_enter Tryz.func92, Tryz.ntmps92
 go_wp2_with fail
 refine (zhf v i _).mono ?_
 rintro e w' ⟨rfl, rfl⟩
 rw [hv]
 go_wp2_with fail
 refine (zbb _ _ h8).mono ?_
 rintro e w' ⟨rfl, rfl⟩
 rw [← HN.out]
 go_wp2_with fail
 clear hmk
 go_region
 go_wp2_with fail
 refine (zeo _).mono ?_
 rintro e w3 ⟨rfl, hb3⟩
 have e1 : W1.heap.size = w.heap.size + 1 + 1 + 1 + 1 := HS1.out
 have hrow : (((W1.setCell ⟨w.heap.size + 1 + 1 + 1, 0, none⟩ (.int .u8 (IntKind.u16.wrap v / 256 % 256))).setCell ⟨w.heap.size + 1 + 1 + 1, 1, none⟩ (.int .u8 (IntKind.u16.wrap v % 256))).setCell ⟨w.heap.size + 1 + 1 + 1, 2, none⟩ (.int .u8 (i % 256))).drew.rowIs (w.heap.size + 1 + 1 + 1) 5 N (fun j => .int .u8 (Dlt.packAt (v, i) zs 0 j)) :=
  (((HR.out.set 0 _).set 1 _).set 2 _).congr fun j hj => by
    obtain ⟨g1, g2, g3, g4⟩ := zbs hv
    unfold Dlt.packAt Dlt.part
    rw [IntKind.wrap_u16]
    by_cases h2 : j = 2
    · subst h2; simp; omega
    · by_cases h1 : j = 1
      · subst h1; simp
      · by_cases h0 : j = 0
        · subst h0; simp; omega
        · simp [h0, h1, h2]
 have b0 : Blk (((W1.setCell ⟨w.heap.size + 1 + 1 + 1, 0, none⟩ (.int .u8 (IntKind.u16.wrap v / 256 % 256))).setCell ⟨w.heap.size + 1 + 1 + 1, 1, none⟩ (.int .u8 (IntKind.u16.wrap v % 256))).setCell ⟨w.heap.size + 1 + 1 + 1, 2, none⟩ (.int .u8 (i % 256))).drew w.heap.size 24 #[.int .i64 v, .int .i64 i] :=
  (((HB0.out.far (by simp; omega) _).far (by simp; omega) _).far (by simp; omega) _).drew
 have b1 : Blk (((W1.setCell ⟨w.heap.size + 1 + 1 + 1, 0, none⟩ (.int .u8 (IntKind.u16.wrap v / 256 % 256))).setCell ⟨w.heap.size + 1 + 1 + 1, 1, none⟩ (.int .u8 (IntKind.u16.wrap v % 256))).setCell ⟨w.heap.size + 1 + 1 + 1, 2, none⟩ (.int .u8 (i % 256))).drew (w.heap.size + 1) 24 #[.int .i64 0, .int .i64 0] :=
  (((HB1.out.far (by simp) _).far (by simp) _).far (by simp) _).drew
 have hbw2 : Below w.heap.size w (((W1.setCell ⟨w.heap.size + 1 + 1 + 1, 0, none⟩ (.int .u8 (IntKind.u16.wrap v / 256 % 256))).setCell ⟨w.heap.size + 1 + 1 + 1, 1, none⟩ (.int .u8 (IntKind.u16.wrap v % 256))).setCell ⟨w.heap.size + 1 + 1 + 1, 2, none⟩ (.int .u8 (i % 256))).drew :=
  (((HBW.out.setCell (by simp; omega) _).setCell (by simp; omega) _).setCell (by simp; omega) _).drew
 have hs3 : w.heap.size + 1 + 1 + 1 + 1 ≤ w3.heap.size := by have := hb3.size; simpa [e1, World.setCell] using this
 have HB0' := H9 ((b0.later hb3).later (zbk w3))
 have HB1' := H9 ((b1.later hb3).later (zbk w3))
 have HR' := H9 (zbp (zbp hrow hb3 hrow.lt) (zbk w3) (zbp hrow hb3 hrow.lt).lt)
 have HBW' := H9 ((hbw2.trans (hb3.mono hbw2.size)).trans ((zbk w3).mono (by omega)))
 have HST := H9 (zed w3)
 have HT := H9 (zdc w3)
 clear hrow b0 b1 hbw2 hb3 HB0 HB1 HR HBW HS1 c0 c1 r0 r1 r2 q0 q1 q2 e1
 go_wp2_with (first
  | (refine wpList_store_mid rfl 198 (.tmp 10) (.tmp 48) (by rfl) w3.heap.size 0 Dlt.szA (by rfl) (by rfl) HT.out HI2.out zju ?_; change wpList _ _ _ _ _ (laidW w3); generalize laidW w3 = W4 at *; generalize w3.heap.size = gt at *; clear hz89 HT HI2)
  | fail)
 go_loopw [51] (fun q wr => ∃ k : Nat, k ≤ zs.length ∧ q = .int .i64 k ∧ Blk wr w.heap.size 24 #[.int .i64 (Dlt.stAt (v, i) zs k).1, .int .i64 (Dlt.stAt (v, i) zs k).2] ∧
  Blk wr (w.heap.size + 1) 24 #[.int .i64 0, .int .i64 0] ∧ wr.rowIs (w.heap.size + 1 + 1 + 1) 5 N (fun j => .int .u8 (Dlt.packAt (v, i) zs k j)) ∧ StepsAt wr gt ∧ Below w.heap.size w wr)
  (fun q _ => zs.length - (intOf q).toNat)
 case atStart => exact ⟨0, Nat.zero_le _, rfl, HB0'.out, HB1'.out, HR'.out, HST.out, HBW'.out⟩
 case round =>
  obtain ⟨k, hk, rfl, B0, B1, R, hst, hb⟩ := hrel
  clear HB0' HB1' HR' HST HBW'
  have HSV := H9 (Dlt.stAt_valid (v, i) hv zs k)
  by_cases hlt : k < zs.length
  · obtain ⟨b, off, rfl, hbB, qc⟩ := hA (by omega)
    have hzk := hz.at hlt
    have hck : wr.cell? ⟨b, off + k, none⟩ = some (.int .i16 (zs.getD k 0)) := (hb.cell (p := ⟨b, off + k, none⟩) hbB).trans (qc k hlt)
    have HS := H9 (Dlt.stAt_succ (v, i) zs k hlt)
    have hcd : Dlt.code (Dlt.stAt (v, i) zs k).1 (Dlt.stAt (v, i) zs k).2 (zs.getD k 0) = Dlt.codeAt (v, i) zs k := rfl
    obtain ⟨k0, k1⟩ := Dlt.codeAt_bd (v, i) zs k
    generalize hcc : Dlt.codeAt (v, i) zs k = c at *
    have HCC := H9 hcc
    generalize zs.getD k 0 = z at hck hzk hcd
    have HC := H9 hcd
    obtain ⟨z0, z1⟩ := hzk
    clear qc hcd hcc
    generalize hV : (Dlt.stAt (v, i) zs k).1 = V at *
    generalize hI : (Dlt.stAt (v, i) zs k).2 = I at *
    have HV := H9 hV
    have HI := H9 hI
    have c0 := B0.at 0 _ rfl
    have c1 := B0.at 1 _ rfl
    have HB0 := H9 B0
    have HB1 := H9 B1
    have HR := H9 R
    have HST := H9 hst
    have HB := H9 hb
    have hn0 : (0 : Int) ≤ (k : Int) := by omega
    have hn1 : (k : Int) < (zs.length : Int) := by omega
    clear B0 B1 R hst hb hV hI
    go_wp2
    go_still_tail 6, (by kernel_rfl)
    change wpList _ _ _ _ _ wr.drew
    go_wp2_with fail
    refine (zkx gt V I z wr.drew HST.out HSV.out z0 z1).mono ?_
    rintro e w5 ⟨rfl, hb5⟩
    rw [HC.out]
    have HB05 := H9 (HB0.out.drew.later hb5)
    have HB15 := H9 (HB1.out.drew.later hb5)
    have HR5 := H9 (zbp HR.out.drew hb5 HR.out.lt)
    have HST5 := H9 (StepsAt.below (w := wr.drew) HST.out hb5)
    have HBW5 := H9 (HB.out.drew.trans (hb5.mono HB.out.size))
    clear hb5 HB0 HB1 HR HST HB c0 c1 hck
    have c0 := HB05.out.at 0 _ rfl
    have c1 := HB05.out.at 1 _ rfl
    go_wp2_with fail
    refine (zdt gt V I c _ HST5.out HSV.out k0 k1).mono ?_
    rintro e w6 ⟨rfl, hb6⟩
    have HB06 := H9 (HB05.out.later hb6)
    have HB16 := H9 (HB15.out.later hb6)
    have HR6 := H9 (zbp HR5.out hb6 HR5.out.lt)
    have HST6 := H9 (HST5.out.below hb6)
    have HBW6 := H9 (HBW5.out.trans (hb6.mono HBW5.out.size))
    clear hb6 HB05 HB15 HR5 HST5 HBW5 c0 c1
    have c0 := HB06.out.at 0 _ rfl
    have c1 := HB06.out.at 1 _ rfl
    have f0 := HB06.out.frozen 0
    have f1 := HB06.out.frozen 1
    have hM : k / 2 + 4 < N := by rw [HN.out]; omega
    have hM1 : (k : Int) / 2 < ((N - 4 : Nat) : Int) := by omega
    have hM0 : (0 : Int) ≤ (k : Int) / 2 := by omega
    have hrc : w6.cell? ⟨w.heap.size + 1 + 1 + 1, 4 + k / 2, none⟩ = some (.int .u8 (Dlt.part (v, i) zs k (k / 2))) := by rw [HR6.out.cell (by omega), Dlt.packAt_body]
    have hrf := HR6.out.frozen (4 + k / 2)
    have hd1 : w.heap.size ≠ w.heap.size + 1 + 1 + 1 := by omega
    have hd2 : w.heap.size + 1 + 1 + 1 ≠ w.heap.size := by omega
    by_cases hpar : k % 2 = 0
    · have hpe := Dlt.part_even (v, i) zs k hpar
      rw [hpe.1] at hrc
      have HPE := H9 hpe.2
      have hpar' : (k : Int) % 2 = 0 := by omega
      clear hpe hpar
      go_wp2
      go_roundw
      case rel =>
       have h := zga hs3 HB06.out HB16.out HR6.out HST6.out HBW6.out (c * 16) (by rw [HPE.out, HCC.out]; omega) HS.out
       exact ⟨k + 1, by omega, by go_num, h⟩
      case measure => simp [intOf]; omega
    · have hpo := Dlt.part_odd (v, i) zs k (by omega)
      obtain ⟨p0, p1⟩ := Dlt.codeAt_bd (v, i) zs (k - 1)
      rw [hpo.1] at hrc
      have HPE := H9 hpo.2
      generalize Dlt.codeAt (v, i) zs (k - 1) = cp at *
      have hpar' : (k : Int) % 2 = 1 := by omega
      clear hpo hpar
      go_wp2
      go_roundw
      case rel =>
       have h := zga hs3 HB06.out HB16.out HR6.out HST6.out HBW6.out (16 * cp + c) (by rw [HPE.out, HCC.out]) HS.out
       exact ⟨k + 1, by omega, by go_num, h⟩
      case measure => simp [intOf]; omega
  · obtain rfl : k = zs.length := by omega
    clear hA hz
    have HB0 := H9 B0
    have HB1 := H9 B1
    have HR := H9 R
    have HB := H9 hb
    generalize hV : (Dlt.stAt (v, i) zs zs.length).1 = V at *
    generalize hI : (Dlt.stAt (v, i) zs zs.length).2 = I at *
    have HV := H9 hV
    have HI := H9 hI
    have c0 := B0.at 0 _ rfl
    have c1 := B0.at 1 _ rfl
    have d0 := B1.at 0 _ rfl
    have d1 := B1.at 1 _ rfl
    have f0 := B1.frozen 0
    have f1 := B1.frozen 1
    clear B0 B1 R hst hb hV hI
    go_wp2
    go_region
    go_wp2
    refine bodyPost_ret (v := .tuple #[.slice (some ⟨w.heap.size + 1 + 1 + 1, 0, none⟩) N N, .agg #[.int .i64 V, .int .i64 I], .int .u8 0]) (by simp [results, Tryz.results92, go_sem, d0, d1]) rfl ?_
    have hbd := Dlt.packAt_bd (v, i) hv zs zs.length
    refine ⟨some ⟨w.heap.size + 1 + 1 + 1, 0, none⟩, N, by rw [HV.out, HI.out, HN.out], by rw [HN.out]; omega, ?_, ?_⟩
    · refine ⟨?_, fun _ b' o' e => by cases e; omega⟩
      refine IntsAt.of_row (((HR.out.setOther (by simp; omega) _).setOther (by simp; omega) _).drew) (by rw [Dlt.packB_len, HN.out]; omega) fun j hj => ?_
      rw [Dlt.packB_len] at hj
      rw [Dlt.packB_at _ _ _ hj]
    · exact ((HB.out.setCell (by simp) _).setCell (by simp) _).drew
end Go.Proofs.YtahbecinkciahaaGreat
namespace Go.Proofs.YtahbecinkciahaaGreat
attribute [local go_sem ↓] zac zad
attribute [local go_sem] zab zag
open Go.RowKit
structure EncK (k v i : Int) (ZA : Option Addr) (zc : Nat) (zs bs : List Int) (s : Int × Int) (K : Nat) (C : Nat → Nat → Array Value) (D : Nat → Nat → Value) : Prop where
 at_ : ∀ b1 b2, cAt b1 b2 k = .agg #[.func (.func K) #[] (C b1 b2), D b1 b2]
 en : ∀ (args : Array Value) (w : World), (callFunc K args).run Tryz.prog w = .ok (.enter K args) w
 run : ∀ (V : World) (b1 b2 : Nat), IntsAt V V.heap.size .i16 ZA zs → Blk V b1 5 #[.int .u8 1] → Blk V b2 5 #[.int .u8 2] → Calls Tryz.prog K (#[.agg #[.int .i64 v, .int .i64 i], .slice ZA 160 zc] ++ C b1 b2) V (EncR bs s V)
theorem zfk (K : Nat) (C : Array Value) (D : Value) (w : World) : (Instr.field 97 (.agg #[.func (.func K) #[] C, D]) 0).run Tryz.prog w = .ok (.func (.func K) #[] C) w := by kernel_rfl
theorem zsp (v i : Int) (A : Option Addr) (zs : List Int) (c : Nat) (w : World) (hv : Dlt.valid v i = true) (hA : IntsAt w w.heap.size .i16 A zs) (hz : Within (-32768) 32767 zs) (h8 : zs.length ≤ 8000) (h0 : 0 < zs.length) : Calls Tryz.prog 92 #[.agg #[.int .i64 v, .int .i64 i], .slice A zs.length c] w (EncR (Dlt.packB (v, i) zs) (Dlt.stAt (v, i) zs zs.length) w) := by
 refine (zqu v i A zs c w hv hA hz h8 h0).mono ?_
 rintro e w' ⟨A', c', rfl, h1, h2, h3⟩
 exact ⟨A', c', by rw [Dlt.packB_len], h2, h3⟩
theorem encK (k v i : Int) (hk : speechB k = true) (hv : Dlt.valid v i = true) (ZA : Option Addr) (zc : Nat) (zs : List Int) (hz : Within (-32768) 32767 zs) (hl : zs.length = 160) : ∃ K C D, EncK k v i ZA zc zs (Sb.enc k (v, i) zs).1 (Sb.enc k (v, i) zs).2 K C D := by
 unfold Sb.enc
 rcases zbq.1 hk with rfl | rfl | rfl
 · refine ⟨_, fun b1 _ => #[.pointer (some ⟨b1, 0, none⟩)], fun b1 _ => _, ⟨fun b1 b2 => rfl, fun _ _ => by kernel_rfl, fun V b1 b2 hA h1 h2 => ?_⟩⟩
   have := ztx v i ZA zs zc b1 V hA hz (by omega) h1
   rw [hl] at this
   exact this
 · refine ⟨_, fun _ b2 => #[.pointer (some ⟨b2, 0, none⟩)], fun _ b2 => _, ⟨fun b1 b2 => rfl, fun _ _ => by kernel_rfl, fun V b1 b2 hA h1 h2 => ?_⟩⟩
   have := zuc v i ZA zs zc b2 V hA hz (by omega) h2
   rw [hl] at this
   exact this
 · refine ⟨_, fun _ _ => #[], fun _ _ => _, ⟨fun b1 b2 => rfl, fun _ _ => by kernel_rfl, fun V b1 b2 hA h1 h2 => ?_⟩⟩
   have := zsp v i ZA zs zc V hv hA hz (by omega) (by omega)
   rw [hl] at this
   rw [show zs.length = 160 from hl]
   exact this
end Go.Proofs.YtahbecinkciahaaGreat
