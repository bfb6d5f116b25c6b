/- Layer 32: what decoders make is new (Unpack of the two laws, Noise, Unpack of delta). -/
import Derived.Test.YtbcgnddpkiemoaaGreatSs9Q
import Derived.Test.YtbcgnddpkiemoaaGreatJtCopyQ
import Derived.Deep.RegionHeld3
import Derived.Deep.RegionWith
import Derived.RegionTactic
import Derived.ChangeAlike
set_option linter.unusedVariables false
set_option linter.unusedSimpArgs false
set_option maxRecDepth 100000
set_option maxHeartbeats 12800000
namespace Go.Proofs.YtbcgnddpkiemoaaGreat
open Go.RowKit
section
theorem zdq (A:Option Addr) (zs:List Int) (cap:Nat) (w:World) (hA:IntsAt w w.heap.size .u8 A zs) (hz:Within (0) 255 zs) (h8:zs.length≤8000) :
 Calls Tryz.prog 31 #[.int .u8 1, .slice A zs.length cap] w fun e w' => ∃ A':Option Addr,e = .returned (.tuple #[.slice A' zs.length zs.length, .int .u8 0]) ∧
  IntsNew w.heap.size w' .i16 A' (zs.map Cmp.fromMuZ)∧Below w.heap.size w w':=by
 have hmk:=run_make_row' (P:=Tryz.prog) 51 104 (.int .i16 0) 2 Tryz.underlying51 zdj rfl .i64 .i64 zs.length (by omega) (by omega) w
 obtain ⟨W1,hW1⟩:∃ W1,W1=w.alloc (.cells (madeCells #[.int .i16 0] zs.length) 104):=⟨_,rfl⟩
 have hrow:W1.rowIs w.heap.size 104 zs.length (fun _ => .int .i16 0):=by rw [hW1];exact World.rowIs_made w _ _ _
 have qb:Below w.heap.size w W1:=by rw [hW1];exact (Below.refl _ _).alloc (Nat.le_refl _) _
 rw [← hW1] at hmk
 clear hW1
 go_enter Tryz.func31,Tryz.ntmps31
 go_wp2_with (go_at_call 67;refine (znv _).mono ?_;rintro e w' ⟨rfl,rfl⟩)
 go_loopw [25] (fun i wr => ∃ k:Nat,k≤zs.length∧i = .int .i64 k∧wr.rowIs w.heap.size 104 zs.length (fun j => .int .i16 (if j<k then Cmp.fromMuZ (zs.getD j 0) else 0))∧Below w.heap.size w wr)
  (fun i _=>zs.length-(intOf i).toNat)
 case atStart=>exact ⟨0,Nat.zero_le _,rfl,hrow.congr (by simp),qb⟩
 case round =>
  obtain ⟨k,hk,rfl,hr,hb⟩:=hrel
  by_cases hlt:k<zs.length
  · obtain ⟨b,off,rfl,hbB,qc⟩:=hA (by omega)
    have hzk:=hz.at hlt
    have hck:wr.cell? ⟨b,off+k,none⟩=some (.int .u8 (zs.getD k 0)):=(hb.cell (p:=⟨b,off+k,none⟩) hbB).trans (qc k hlt)
    have hcr:wr.cell? ⟨w.heap.size,k,none⟩=some (.int .i16 0):=by rw [hr.cell hlt];simp
    have hfr:=hr.frozen k
    have hrl:=hr.lt
    have hn1:b≠w.heap.size:=by omega
    have hn2:w.heap.size≠b:=by omega
    have HR:=Z9 hr
    have hbs:=hb.size
    clear hr qc hrow qb hmk
    generalize hzz:zs.getD k 0=z at hck hzk
    have HZ:=Z9 hzz
    clear hzz
    obtain ⟨hz1,hz2⟩:=hzk
    have hi0:(0:Int)≤(k:Int):=by omega
    have hi1:(k:Int)<(zs.length:Int):=by omega
    have hna:=zhs
    have hme:=zht
    go_wp2
    go_region_held3 (fun w'=>w'.cell? ⟨b,off+k,none⟩=some (.int .u8 z)) (go_keep)
     (first|(go_at_call 160;refine (zqt _ _ (by omega) (by omega)).mono ?_;rintro e w' ⟨rfl,rfl⟩)|fail)
    go_wp2
    go_roundw
    case rel =>
     refine ⟨k+1,by omega,by go_num,?_,((hb.setCell (Nat.le_refl _) _).alloc (by simpa using hbs) _).drew⟩
     rw [← HZ.out]
     exact (zav (g:=fun j=>Cmp.fromMuZ (zs.getD j 0)) HR.out).alloc _
    case measure=>simp [intOf];omega
  · obtain rfl:k=zs.length:=by omega
    have HR:=Z9 hr
    clear hr hrow qb hmk
    go_wp2
    go_ret2
    exact ⟨_,rfl,⟨IntsAt.of_fill HR.out,fun _ b' o' e=>by cases e;exact Nat.le_refl _⟩,hb⟩
theorem zfg (A:Option Addr) (zs:List Int) (cap:Nat) (w:World) (hA:IntsAt w w.heap.size .u8 A zs) (hz:Within (0) 255 zs) (h8:zs.length≤8000) :
 Calls Tryz.prog 31 #[.int .u8 2, .slice A zs.length cap] w fun e w' => ∃ A':Option Addr,e = .returned (.tuple #[.slice A' zs.length zs.length, .int .u8 0]) ∧
  IntsNew w.heap.size w' .i16 A' (zs.map Cmp.fromAZ)∧Below w.heap.size w w':=by
 have hmk:=run_make_row' (P:=Tryz.prog) 51 104 (.int .i16 0) 2 Tryz.underlying51 zdj rfl .i64 .i64 zs.length (by omega) (by omega) w
 obtain ⟨W1,hW1⟩:∃ W1,W1=w.alloc (.cells (madeCells #[.int .i16 0] zs.length) 104):=⟨_,rfl⟩
 have hrow:W1.rowIs w.heap.size 104 zs.length (fun _ => .int .i16 0):=by rw [hW1];exact World.rowIs_made w _ _ _
 have qb:Below w.heap.size w W1:=by rw [hW1];exact (Below.refl _ _).alloc (Nat.le_refl _) _
 rw [← hW1] at hmk
 clear hW1
 go_enter Tryz.func31,Tryz.ntmps31
 go_wp2_with (go_at_call 67;refine (zsv _).mono ?_;rintro e w' ⟨rfl,rfl⟩)
 go_loopw [25] (fun i wr => ∃ k:Nat,k≤zs.length∧i = .int .i64 k∧wr.rowIs w.heap.size 104 zs.length (fun j => .int .i16 (if j<k then Cmp.fromAZ (zs.getD j 0) else 0))∧Below w.heap.size w wr)
  (fun i _=>zs.length-(intOf i).toNat)
 case atStart=>exact ⟨0,Nat.zero_le _,rfl,hrow.congr (by simp),qb⟩
 case round =>
  obtain ⟨k,hk,rfl,hr,hb⟩:=hrel
  by_cases hlt:k<zs.length
  · obtain ⟨b,off,rfl,hbB,qc⟩:=hA (by omega)
    have hzk:=hz.at hlt
    have hck:wr.cell? ⟨b,off+k,none⟩=some (.int .u8 (zs.getD k 0)):=(hb.cell (p:=⟨b,off+k,none⟩) hbB).trans (qc k hlt)
    have hcr:wr.cell? ⟨w.heap.size,k,none⟩=some (.int .i16 0):=by rw [hr.cell hlt];simp
    have hfr:=hr.frozen k
    have hrl:=hr.lt
    have hn1:b≠w.heap.size:=by omega
    have hn2:w.heap.size≠b:=by omega
    have HR:=Z9 hr
    have hbs:=hb.size
    clear hr qc hrow qb hmk
    generalize hzz:zs.getD k 0=z at hck hzk
    have HZ:=Z9 hzz
    clear hzz
    obtain ⟨hz1,hz2⟩:=hzk
    have hi0:(0:Int)≤(k:Int):=by omega
    have hi1:(k:Int)<(zs.length:Int):=by omega
    have hna:=zit
    have hme:=ziu
    go_wp2
    go_region_held3 (fun w'=>w'.cell? ⟨b,off+k,none⟩=some (.int .u8 z)) (go_keep)
     (first|(go_at_call 165;refine (zuc _ _ (by omega) (by omega)).mono ?_;rintro e w' ⟨rfl,rfl⟩)|fail)
    go_wp2
    go_roundw
    case rel =>
     refine ⟨k+1,by omega,by go_num,?_,((hb.setCell (Nat.le_refl _) _).alloc (by simpa using hbs) _).drew⟩
     rw [← HZ.out]
     exact (zav (g:=fun j=>Cmp.fromAZ (zs.getD j 0)) HR.out).alloc _
    case measure=>simp [intOf];omega
  · obtain rfl:k=zs.length:=by omega
    have HR:=Z9 hr
    clear hr hrow qb hmk
    go_wp2
    go_ret2
    exact ⟨_,rfl,⟨IntsAt.of_fill HR.out,fun _ b' o' e=>by cases e;exact Nat.le_refl _⟩,hb⟩
theorem zkw (A:Option Addr) (zs:List Int) (cap:Nat) (w:World) (hA:IntsAt w w.heap.size .i16 A zs) (hz:Within (-32768) 32767 zs) (h8:zs.length≤8000) :
 Calls Tryz.prog 29 #[.int .u8 1, .slice A zs.length cap] w fun e w' => ∃ A':Option Addr,e = .returned (.tuple #[.slice A' zs.length zs.length, .int .u8 0]) ∧
  IntsNew w.heap.size w' .u8 A' (zs.map Cmp.muZ)∧Below w.heap.size w w':=by
 have hmk:=run_make_row' (P:=Tryz.prog) 69 5 (.int .u8 0) 1 Tryz.underlying69 zsw rfl .i64 .i64 zs.length (by omega) (by omega) w
 obtain ⟨W1,hW1⟩:∃ W1,W1=w.alloc (.cells (madeCells #[.int .u8 0] zs.length) 5):=⟨_,rfl⟩
 have hrow:W1.rowIs w.heap.size 5 zs.length (fun _ => .int .u8 0):=by rw [hW1];exact World.rowIs_made w _ _ _
 have qb:Below w.heap.size w W1:=by rw [hW1];exact (Below.refl _ _).alloc (Nat.le_refl _) _
 rw [← hW1] at hmk
 clear hW1
 go_enter Tryz.func29,Tryz.ntmps29
 go_wp2_with (go_at_call 67;refine (znv _).mono ?_;rintro e w' ⟨rfl,rfl⟩)
 go_loopw [25] (fun i wr => ∃ k:Nat,k≤zs.length∧i = .int .i64 k∧wr.rowIs w.heap.size 5 zs.length (fun j => .int .u8 (if j<k then Cmp.muZ (zs.getD j 0) else 0))∧Below w.heap.size w wr)
  (fun i _=>zs.length-(intOf i).toNat)
 case atStart=>exact ⟨0,Nat.zero_le _,rfl,hrow.congr (by simp),qb⟩
 case round =>
  obtain ⟨k,hk,rfl,hr,hb⟩:=hrel
  by_cases hlt:k<zs.length
  · obtain ⟨b,off,rfl,hbB,qc⟩:=hA (by omega)
    have hzk:=hz.at hlt
    have hck:wr.cell? ⟨b,off+k,none⟩=some (.int .i16 (zs.getD k 0)):=(hb.cell (p:=⟨b,off+k,none⟩) hbB).trans (qc k hlt)
    have hcr:wr.cell? ⟨w.heap.size,k,none⟩=some (.int .u8 0):=by rw [hr.cell hlt];simp
    have hfr:=hr.frozen k
    have hrl:=hr.lt
    have hn1:b≠w.heap.size:=by omega
    have hn2:w.heap.size≠b:=by omega
    have HR:=Z9 hr
    have hbs:=hb.size
    clear hr qc hrow qb hmk
    generalize hzz:zs.getD k 0=z at hck hzk
    have HZ:=Z9 hzz
    clear hzz
    obtain ⟨hz1,hz2⟩:=hzk
    have hi0:(0:Int)≤(k:Int):=by omega
    have hi1:(k:Int)<(zs.length:Int):=by omega
    have hna:=zlm
    have hme:=zln
    go_wp2
    go_region_held3 (fun w'=>w'.cell? ⟨b,off+k,none⟩=some (.int .i16 z)) (go_keep)
     (first|(go_at_call 159;refine (zwf _ _ (by omega) (by omega)).mono ?_;rintro e w' ⟨rfl,rfl⟩)|fail)
    go_wp2
    go_roundw
    case rel =>
     refine ⟨k+1,by omega,by go_num,?_,((hb.setCell (Nat.le_refl _) _).alloc (by simpa using hbs) _).drew⟩
     rw [← HZ.out]
     exact (zav (g:=fun j=>Cmp.muZ (zs.getD j 0)) HR.out).alloc _
    case measure=>simp [intOf];omega
  · obtain rfl:k=zs.length:=by omega
    have HR:=Z9 hr
    clear hr hrow qb hmk
    go_wp2
    go_ret2
    exact ⟨_,rfl,⟨IntsAt.of_fill HR.out,fun _ b' o' e=>by cases e;exact Nat.le_refl _⟩,hb⟩
theorem zpv (A:Option Addr) (zs:List Int) (cap:Nat) (w:World) (hA:IntsAt w w.heap.size .i16 A zs) (hz:Within (-32768) 32767 zs) (h8:zs.length≤8000) :
 Calls Tryz.prog 29 #[.int .u8 2, .slice A zs.length cap] w fun e w' => ∃ A':Option Addr,e = .returned (.tuple #[.slice A' zs.length zs.length, .int .u8 0]) ∧
  IntsNew w.heap.size w' .u8 A' (zs.map Cmp.aZ)∧Below w.heap.size w w':=by
 have hmk:=run_make_row' (P:=Tryz.prog) 69 5 (.int .u8 0) 1 Tryz.underlying69 zsw rfl .i64 .i64 zs.length (by omega) (by omega) w
 obtain ⟨W1,hW1⟩:∃ W1,W1=w.alloc (.cells (madeCells #[.int .u8 0] zs.length) 5):=⟨_,rfl⟩
 have hrow:W1.rowIs w.heap.size 5 zs.length (fun _ => .int .u8 0):=by rw [hW1];exact World.rowIs_made w _ _ _
 have qb:Below w.heap.size w W1:=by rw [hW1];exact (Below.refl _ _).alloc (Nat.le_refl _) _
 rw [← hW1] at hmk
 clear hW1
 go_enter Tryz.func29,Tryz.ntmps29
 go_wp2_with (go_at_call 67;refine (zsv _).mono ?_;rintro e w' ⟨rfl,rfl⟩)
 go_loopw [25] (fun i wr => ∃ k:Nat,k≤zs.length∧i = .int .i64 k∧wr.rowIs w.heap.size 5 zs.length (fun j => .int .u8 (if j<k then Cmp.aZ (zs.getD j 0) else 0))∧Below w.heap.size w wr)
  (fun i _=>zs.length-(intOf i).toNat)
 case atStart=>exact ⟨0,Nat.zero_le _,rfl,hrow.congr (by simp),qb⟩
 case round =>
  obtain ⟨k,hk,rfl,hr,hb⟩:=hrel
  by_cases hlt:k<zs.length
  · obtain ⟨b,off,rfl,hbB,qc⟩:=hA (by omega)
    have hzk:=hz.at hlt
    have hck:wr.cell? ⟨b,off+k,none⟩=some (.int .i16 (zs.getD k 0)):=(hb.cell (p:=⟨b,off+k,none⟩) hbB).trans (qc k hlt)
    have hcr:wr.cell? ⟨w.heap.size,k,none⟩=some (.int .u8 0):=by rw [hr.cell hlt];simp
    have hfr:=hr.frozen k
    have hrl:=hr.lt
    have hn1:b≠w.heap.size:=by omega
    have hn2:w.heap.size≠b:=by omega
    have HR:=Z9 hr
    have hbs:=hb.size
    clear hr qc hrow qb hmk
    generalize hzz:zs.getD k 0=z at hck hzk
    have HZ:=Z9 hzz
    clear hzz
    obtain ⟨hz1,hz2⟩:=hzk
    have hi0:(0:Int)≤(k:Int):=by omega
    have hi1:(k:Int)<(zs.length:Int):=by omega
    have hna:=znw
    have hme:=znx
    go_wp2
    go_region_held3 (fun w'=>w'.cell? ⟨b,off+k,none⟩=some (.int .i16 z)) (go_keep)
     (first|(go_at_call 164;refine (zxt _ _ (by omega) (by omega)).mono ?_;rintro e w' ⟨rfl,rfl⟩)|fail)
    go_wp2
    go_roundw
    case rel =>
     refine ⟨k+1,by omega,by go_num,?_,((hb.setCell (Nat.le_refl _) _).alloc (by simpa using hbs) _).drew⟩
     rw [← HZ.out]
     exact (zav (g:=fun j=>Cmp.aZ (zs.getD j 0)) HR.out).alloc _
    case measure=>simp [intOf];omega
  · obtain rfl:k=zs.length:=by omega
    have HR:=Z9 hr
    clear hr hrow qb hmk
    go_wp2
    go_ret2
    exact ⟨_,rfl,⟨IntsAt.of_fill HR.out,fun _ b' o' e=>by cases e;exact Nat.le_refl _⟩,hb⟩
end
attribute [local go_sem] zaa zad
section
variable (l s n:Int) (w:World)
def NoiseN (a s:Int) (m:Nat) (w:World) (e:Ending) (w':World):Prop :=
 ∃ (A':Option Addr) (c':Nat),e = .returned (.tuple #[.slice A' m c', .int .u32 (Ev.seed s m), .int .u8 0])∧IntsNew w.heap.size w' .i16 A' ((List.range m).map fun k=>Ev.nsamp a s k)∧Below w.heap.size w w'
theorem zpw (m:Nat) (h0:0≤l) (h1:l≤255) (s0:0≤s) (s1:s≤4294967295) (hm:m≤8000) :
 Calls Tryz.prog 132 #[.int .u8 l, .int .u32 s, .int .i64 m] w (NoiseN (Ev.amp (l / 6).toNat) s m w):=by
 obtain ⟨p,hp⟩:=Int.eq_ofNat_of_zero_le (a:=l / 6) (by omega)
 have hsh:(32767:Int) / 2 ^ p=Ev.amp p:=Ev.amp_pow ⟨p,by omega⟩
 have hmk:=run_make_row' (P:=Tryz.prog) 51 104 (.int .i16 0) 2 Tryz.underlying51 Ev.info_i16 rfl .i64 .i64 m (by omega) (by omega) w
 obtain ⟨W1,hW1⟩:∃ W1,W1=w.alloc (.cells (madeCells #[.int .i16 0] m) 104):=⟨_,rfl⟩
 have hrow:W1.rowIs w.heap.size 104 m (fun _ => .int .i16 0):=by rw [hW1];exact World.rowIs_made w _ _ _
 have qb:Below w.heap.size w W1:=by rw [hW1];exact (Below.refl _ _).alloc (Nat.le_refl _) _
 rw [← hW1] at hmk
 clear hW1
 rw [hp,Int.toNat_natCast]
 have ha:=Ev.amp_bd p
 obtain ⟨a0,a1⟩:=ha
 generalize Ev.amp p=a at *
 go_enter Tryz.func132,Tryz.ntmps132
 go_wp2
 go_loopw [1,24] (fun sd i wr => ∃ k:Nat,k≤m∧i = .int .i64 k∧sd = .int .u32 (Ev.seed s k)∧wr.rowIs w.heap.size 104 m (fun j => .int .i16 (if j<k then Ev.nsamp a s j else 0))∧Below w.heap.size w wr) (fun _ i _=>m-(intOf i).toNat)
 case atStart=>exact ⟨0,Nat.zero_le _,rfl,rfl,hrow.congr (by simp),qb⟩
 case round =>
  obtain ⟨k,hk,rfl,rfl,hr,hb⟩:=hrel
  clear hrow qb hmk
  by_cases hlt:k<m
  · have hcr:wr.cell? ⟨w.heap.size,k,none⟩=some (.int .i16 0):=by rw [hr.cell hlt];simp
    have hfr:=hr.frozen k
    have hsb:=Ev.seed_bd s s0 s1 k
    obtain ⟨b0,b1⟩:=hsb
    have hss:Ev.seed s (k+1)=(Ev.seed s k*1103515245+12345) % 4294967296:=rfl
    have hns:Ev.nsamp a s k=Ev.seed s (k+1) / 65536 % (2*a+1)-a:=rfl
    have hnb:=Ev.nsamp_bd a s a0 k
    have HR:=Z9 hr
    have HSS:=Z9 hss
    have HNS:=Z9 hns
    have HNB:=Z9 hnb
    have hi0:(0:Int)≤(k:Int):=by omega
    have hi1:(k:Int)<(m:Int):=by omega
    clear hr hss hns hnb
    generalize Ev.seed s k=x at *
    have hv:IntKind.i16.wrap (wrap64 ((1103515245*x+12345) % 4294967296 / 65536 % (2*a+1)-a))=Ev.nsamp a s k:=by
     have h1:=HNB.out
     rw [HNS.out,HSS.out,show x*1103515245+12345=1103515245*x+12345 by omega] at h1 ⊢
     rw [IntWalk.wrap64_in _ ⟨by omega,by omega⟩]
     simp only [IntKind.wrap,IntKind.bits,IntKind.signed]
     simp
     omega
    have HV:=Z9 hv
    clear hv
    go_wp2
    go_roundw
    case rel =>
     refine ⟨k+1,by omega,by go_num,?_,?_,hb.setCell (Nat.le_refl _) _⟩
     · rw [HSS.out];congr 1;omega
     · rw [HV.out];exact zav (g:=fun j=>Ev.nsamp a s j) HR.out
    case measure=>simp [intOf];omega
  · obtain rfl:k=m:=by omega
    have HR:=Z9 hr
    clear hr
    go_wp2
    go_ret3
    refine ⟨_,_,rfl,⟨?_,fun _ b' o' e=>by cases e;exact Nat.le_refl _⟩,hb⟩
    refine IntsAt.of_row HR.out (by simp) fun i hi => ?_
    have hi':i<k:=by simpa using hi
    rw [if_pos hi']
    simp [List.getD_eq_getElem?_getD,List.getElem?_range hi']
end
section
theorem zmr (n:Nat) (A:Option Addr) (bs:List Int) (cap:Nat) (w:World) (hn:n≤8000) (hn1:0<n) (hA:IntsAt w w.heap.size .u8 A bs) (hz:Within 0 255 bs) (hok:Dlt.okB bs n) (hcap:bs.length≤cap) :
 Calls Tryz.prog 32 #[.slice A bs.length cap, .int .i64 n] w fun e w' => ∃ (A':Option Addr) (c':Nat),e = .returned (.tuple #[.slice A' n c', .agg #[.int .i64 (Dlt.dAt (Dlt.headS bs) bs n).1, .int .i64 (Dlt.dAt (Dlt.headS bs) bs n).2], .int .u8 0]) ∧
  IntsNew w.heap.size w' .i16 A' (Dlt.unpackL bs n)∧Below w.heap.size w w':=by
 have HVAL:=Z9 (Dlt.headS_valid bs n hok hz)
 obtain ⟨ok1,ok2,ok3,ok4⟩:=hok
 obtain ⟨b,off,rfl,hbB,qc⟩:=hA (by omega)
 have c0:=qc 0 (by omega)
 have c1:=qc 1 (by omega)
 have c2:=qc 2 (by omega)
 have c3:=qc 3 (by omega)
 have cl:=qc (bs.length-1) (by omega)
 obtain ⟨l0,l1⟩:=hz.at (i:=bs.length-1) (by omega)
 obtain ⟨a0,a1⟩:=hz.at (i:=0) (by omega)
 obtain ⟨b0,b1⟩:=hz.at (i:=1) (by omega)
 obtain ⟨g0,g1⟩:=hz.at (i:=2) (by omega)
 have hb':b≠w.heap.size:=by omega
 have hb'':b≠w.heap.size+1:=by omega
 generalize hx0:bs.getD 0 0=x0 at *
 generalize hx1:bs.getD 1 0=x1 at *
 generalize hx2:bs.getD 2 0=x2 at *
 generalize hx3:bs.getD 3 0=x3 at *
 have HX3:=Z9 (show bs.getD 3 0=0 by rw [hx3,ok3])
 subst ok3
 generalize bs.getD (bs.length-1) 0=xl at *
 have HX0:=Z9 hx0
 have HX1:=Z9 hx1
 have HX2:=Z9 hx2
 have HCELL:=Z9 qc
 have HZ:=Z9 hz
 generalize hM:bs.length=M at *
 have HMM:=Z9 hM
 clear hA hz qc hx0 hx1 hx2 hM
 have hM4:(4:Int)≤(M:Int):=by omega
 have hM2:(2:Int)<(M:Int):=by omega
 have hM3:(3:Int)<(M:Int):=by omega
 have hM1:(1:Int)<(M:Int):=by omega
 have hM0:(0:Int)<(M:Int):=by omega
 have hl0:(0:Int)≤(M:Int)-1:=by omega
 have hl1:(M:Int)-1<(M:Int):=by omega
 have hl2:((M:Int)-1).toNat=M-1:=by omega
 have cc0:(w.alloc (.cells #[.int .i64 0, .int .i64 0] 30)).cell? ⟨b,off,none⟩=some (.int .u8 x0):=(World.cell?_alloc_lt w _ _ hbB).trans c0
 have cc1:(w.alloc (.cells #[.int .i64 0, .int .i64 0] 30)).cell? ⟨b,off+1,none⟩=some (.int .u8 x1):=(World.cell?_alloc_lt w _ _ hbB).trans c1
 have cc2:(w.alloc (.cells #[.int .i64 0, .int .i64 0] 30)).cell? ⟨b,off+2,none⟩=some (.int .u8 x2):=(World.cell?_alloc_lt w _ _ hbB).trans c2
 have cc3:(w.alloc (.cells #[.int .i64 0, .int .i64 0] 30)).cell? ⟨b,off+3,none⟩=some (.int .u8 0):=(World.cell?_alloc_lt w _ _ hbB).trans c3
 have ccl:(w.alloc (.cells #[.int .i64 0, .int .i64 0] 30)).cell? ⟨b,off+(M-1),none⟩=some (.int .u8 xl):=(World.cell?_alloc_lt w _ _ hbB).trans cl
 have cd0:((w.alloc (.cells #[.int .i64 0, .int .i64 0] 30)).alloc (.cells #[.int .i64 0, .int .i64 0] 30)).cell? ⟨b,off,none⟩=some (.int .u8 x0):=(World.cell?_alloc_lt _ _ _ (by simp;omega)).trans ((World.cell?_alloc_lt w _ _ hbB).trans c0)
 have cd1:((w.alloc (.cells #[.int .i64 0, .int .i64 0] 30)).alloc (.cells #[.int .i64 0, .int .i64 0] 30)).cell? ⟨b,off+1,none⟩=some (.int .u8 x1):=(World.cell?_alloc_lt _ _ _ (by simp;omega)).trans ((World.cell?_alloc_lt w _ _ hbB).trans c1)
 have cd2:((w.alloc (.cells #[.int .i64 0, .int .i64 0] 30)).alloc (.cells #[.int .i64 0, .int .i64 0] 30)).cell? ⟨b,off+2,none⟩=some (.int .u8 x2):=(World.cell?_alloc_lt _ _ _ (by simp;omega)).trans ((World.cell?_alloc_lt w _ _ hbB).trans c2)
 clear c0 c1 c2 c3 cl
 obtain ⟨N,hN⟩:∃ N,N=4+(n+1) / 2:=⟨_,rfl⟩
 obtain rfl:M=N:=by omega
 have HS:=Z9 hN.symm
 have h5:5≤M:=by omega
 have h5':M≤4005:=by omega
 clear hN ok1
 have hpar:(n:Int) % 2=0∨((n:Int) % 2=1∧(xl % 16 != 0)=false):=by
  by_cases h:n % 2=1
  · exact .inr ⟨by omega,by have:=ok4 h;simp [this]⟩
  · exact .inl (by omega)
 clear ok4
 go_enter Tryz.func32,Tryz.ntmps32
 go_wp2_with fail
 refine (zau n _ hn).mono ?_
 rintro e w' ⟨rfl,rfl⟩
 rw [HS.out]
 go_wp2_with fail
 refine (zau n _ hn).mono ?_
 rintro e w' ⟨rfl,rfl⟩
 rw [HS.out]
 have HI2:=Z9 zgw
 have hz89:=zjz
 rcases hpar with hp|⟨hp,hq⟩
 all_goals
  go_wp2_with fail
  go_region
  go_wp2_with fail
  have hhw:=zhw x0 x1 a0 a1 b0 b1
  generalize wrap64 (IntKind.i16.wrap (bits BinOp.or IntKind.u16 (x0*256) x1))=V0 at *
  refine (zej _).mono ?_
  rintro e w3 ⟨rfl,hb3⟩
  have b0:Blk ((w.alloc (.cells #[.int .i64 0, .int .i64 0] 30)).alloc (.cells #[.int .i64 V0, .int .i64 x2] 30)).drew w.heap.size 30 #[.int .i64 0, .int .i64 0]:=((Blk.new w _ _).alloc _).drew
  have b1:Blk ((w.alloc (.cells #[.int .i64 0, .int .i64 0] 30)).alloc (.cells #[.int .i64 V0, .int .i64 x2] 30)).drew (w.heap.size+1) 30 #[.int .i64 V0, .int .i64 x2]:=by
   have h:=Blk.new (w.alloc (.cells #[.int .i64 0, .int .i64 0] 30)) 30 #[.int .i64 V0, .int .i64 x2]
   rw [show (w.alloc (.cells #[.int .i64 0, .int .i64 0] 30)).heap.size=w.heap.size+1 by simp] at h
   exact h.drew
  have hbw:Below w.heap.size w ((w.alloc (.cells #[.int .i64 0, .int .i64 0] 30)).alloc (.cells #[.int .i64 V0, .int .i64 x2] 30)).drew:=(((Below.refl _ w).alloc (Nat.le_refl _) _).alloc (by simp) _).drew
  have hs3:w.heap.size+1+1≤w3.heap.size:=by have:=hb3.size;simpa using this
  have HB0:=Z9 ((b0.later hb3).later (zba w3))
  have HB1:=Z9 ((b1.later hb3).later (zba w3))
  have HBW:=Z9 ((hbw.trans (hb3.mono hbw.size)).trans ((zba w3).mono (by omega)))
  have HST:=Z9 (zdl w3)
  have HT:=Z9 (zcj w3)
  have HSZ:=Z9 (zev w3)
  have hmk:=run_make_row' (P:=Tryz.prog) 51 104 (.int .i16 0) 2 Tryz.underlying51 zoa rfl .i64 .i64 n (by omega) (by omega) (laidW w3)
  clear b0 b1 hbw hb3 cc0 cc1 cc2 cc3 ccl cd0 cd1 cd2
  go_wp2_with (first
   | (refine wpList_store_mid rfl 196 (.tmp 9) (.tmp 82) (by rfl) w3.heap.size 0 Dlt.szA (by rfl) (by rfl) HT.out HI2.out ziw ?_;change wpList _ _ _ _ _ (laidW w3);generalize laidW w3=W4 at *; generalize w3.heap.size=gt at *; clear hz89 HT HI2)
   | fail)
  have HH:Hid (Dlt.headS bs=(V0,x2)):=Z9 (by unfold Dlt.headS;rw [HX0.out,HX1.out,HX2.out,hhw])
  have HSV0:Hid (Dlt.valid V0 x2=true):=Z9 (by have h:=HVAL.out;rw [HH.out] at h;exact h)
  generalize hr:W4.heap.size=r at *
  have hs4:w.heap.size+1+1≤r:=by have:=HSZ.out;omega
  have HSZ':=Z9 HSZ.out
  clear hmk hhw
  go_loopw [86] (fun q wr => ∃ k:Nat,k≤n∧q = .int .i64 k∧Blk wr w.heap.size 30 #[.int .i64 0, .int .i64 0] ∧
   Blk wr (w.heap.size+1) 30 #[.int .i64 (Dlt.dAt (V0,x2) bs k).1, .int .i64 (Dlt.dAt (V0,x2) bs k).2] ∧
   wr.rowIs r 104 n (fun j => .int .i16 (if j<k then (Dlt.dAt (V0,x2) bs (j+1)).1 else 0))∧StepsAt wr gt∧Below w.heap.size w wr)
   (fun q _=>n-(intOf q).toNat)
  case atStart =>
   refine ⟨0,Nat.zero_le _,rfl,HB0.out.alloc _,HB1.out.alloc _,?_,?_,?_⟩
   · have h:=World.rowIs_made W4 (.int .i16 0) n 104
     rw [hr] at h
     exact h.congr fun j _=>by simp
   · exact HST.out.below ((Below.refl _ _).alloc (Nat.le_refl _) _)
   · exact HBW.out.alloc (by omega) _
  case round =>
   obtain ⟨k,hk,rfl,B0,B1,R,hst,hb⟩:=hrel
   clear HB0 HB1 HST HBW
   have HSV:=Z9 (Dlt.dAt_valid (V0,x2) HSV0.out bs k)
   have HNX:Hid (Dlt.dAt (V0,x2) bs (k+1)=(Dlt.nextV (Dlt.dAt (V0,x2) bs k).1 (Dlt.dAt (V0,x2) bs k).2 (Dlt.nib bs k),Dlt.nextI (Dlt.dAt (V0,x2) bs k).2 (Dlt.nib bs k))):=Z9 rfl
   by_cases hlt:k<n
   · have hM6:4+k / 2<M:=by have:=HS.out;omega
     have hck:wr.cell? ⟨b,off+4+k / 2,none⟩=some (.int .u8 (bs.getD (4+k / 2) 0)):=by
      rw [Nat.add_assoc]
      exact (hb.cell (p:=⟨b,off+(4+k / 2),none⟩) hbB).trans (HCELL.out _ hM6)
     have hzk:=HZ.out.at (i:=4+k / 2) (by rw [HMM.out];exact hM6)
     have hnib:Dlt.nib bs k=if k % 2=0 then bs.getD (4+k / 2) 0 / 16 else bs.getD (4+k / 2) 0 % 16:=rfl
     generalize bs.getD (4+k / 2) 0=x at hck hzk hnib
     obtain ⟨z0,z1⟩:=hzk
     generalize hc:Dlt.nib bs k=c at *
     generalize hV:(Dlt.dAt (V0,x2) bs k).1=V at *
     generalize hI:(Dlt.dAt (V0,x2) bs k).2=I at *
     have HC:=Z9 hnib
     have c0:=B1.at 0 _ rfl
     have c1:=B1.at 1 _ rfl
     have f0:=B1.frozen 0
     have f1:=B1.frozen 1
     have HB0:=Z9 B0
     have HB1:=Z9 B1
     have HR:=Z9 R
     have HST:=Z9 hst
     have HB:=Z9 hb
     have hn0:(0:Int)≤(k:Int) / 2:=by omega
     have hn2:(k:Int) / 2<((M-4:Nat):Int):=by omega
     have hk0:(0:Int)≤(k:Int):=by omega
     have hk1:(k:Int)<(n:Int):=by omega
     clear B0 B1 R hst hb hV hI hc hnib
     by_cases hpar:k % 2=0
     · have hpar':(k:Int) % 2=0:=by omega
       have hce:x / 16 % 16=c:=by have:=HC.out;rw [if_pos hpar] at this;omega
       have HCE:=Z9 hce
       have z2:0≤c:=by omega
       have z3:c≤15:=by omega
       clear hpar hce
       go_wp2_with fail
       rw [HCE.out]
       refine (zdk gt V I c _ HST.out HSV.out z2 z3).mono ?_
       rintro e w6 ⟨rfl,hb6⟩
       have HB06:=Z9 (HB0.out.later hb6)
       have HB16:=Z9 (HB1.out.later hb6)
       have HR6:=Z9 (zbf HR.out hb6 HR.out.lt)
       have HST6:=Z9 (HST.out.below hb6)
       have HBW6:=Z9 (HB.out.trans (hb6.mono HB.out.size))
       clear hb6 HB0 HB1 HR HST HB c0 c1 f0 f1 hck
       have c0:=HB16.out.at 0 _ rfl
       have c1:=HB16.out.at 1 _ rfl
       have f0:=HB16.out.frozen 0
       have f1:=HB16.out.frozen 1
       have hrc:=HR6.out.cell (i:=k) (by omega)
       have hrf:=HR6.out.frozen k
       have hd1:w.heap.size+1≠r:=by omega
       have hd2:r≠w.heap.size+1:=by omega
       obtain ⟨nv0,nv1⟩:=Dlt.nextV_bd V I c
       go_wp2
       go_roundw
       case rel =>
        have h:=zdu hs3 HSZ'.out HB06.out HB16.out HR6.out HST6.out HBW6.out HNX.out
        exact ⟨k+1,by omega,by go_num,h⟩
       case measure=>simp [intOf];omega
     · have hpar':(k:Int) % 2=1:=by omega
       have hce:x % 16=c:=by have:=HC.out;rw [if_neg hpar] at this;omega
       have HCE:=Z9 hce
       have z2:0≤c:=by omega
       have z3:c≤15:=by omega
       clear hpar hce
       go_wp2_with fail
       rw [HCE.out]
       refine (zdk gt V I c _ HST.out HSV.out z2 z3).mono ?_
       rintro e w6 ⟨rfl,hb6⟩
       have HB06:=Z9 (HB0.out.later hb6)
       have HB16:=Z9 (HB1.out.later hb6)
       have HR6:=Z9 (zbf HR.out hb6 HR.out.lt)
       have HST6:=Z9 (HST.out.below hb6)
       have HBW6:=Z9 (HB.out.trans (hb6.mono HB.out.size))
       clear hb6 HB0 HB1 HR HST HB c0 c1 f0 f1 hck
       have c0:=HB16.out.at 0 _ rfl
       have c1:=HB16.out.at 1 _ rfl
       have f0:=HB16.out.frozen 0
       have f1:=HB16.out.frozen 1
       have hrc:=HR6.out.cell (i:=k) (by omega)
       have hrf:=HR6.out.frozen k
       have hd1:w.heap.size+1≠r:=by omega
       have hd2:r≠w.heap.size+1:=by omega
       obtain ⟨nv0,nv1⟩:=Dlt.nextV_bd V I c
       go_wp2
       go_roundw
       case rel =>
        have h:=zdu hs3 HSZ'.out HB06.out HB16.out HR6.out HST6.out HBW6.out HNX.out
        exact ⟨k+1,by omega,by go_num,h⟩
       case measure=>simp [intOf];omega
   · obtain rfl:k=n:=by omega
     have HB0:=Z9 B0
     have HB1:=Z9 B1
     have HR:=Z9 R
     have HB:=Z9 hb
     have HHH:=Z9 (show Dlt.headS bs=(V0,x2) from HH.out)
     generalize hV:(Dlt.dAt (V0,x2) bs k).1=V at *
     generalize hI:(Dlt.dAt (V0,x2) bs k).2=I at *
     have HV:=Z9 hV
     have HI:=Z9 hI
     have c0:=B1.at 0 _ rfl
     have c1:=B1.at 1 _ rfl
     have d0:=B0.at 0 _ rfl
     have d1:=B0.at 1 _ rfl
     have f0:=B0.frozen 0
     have f1:=B0.frozen 1
     clear B0 B1 R hst hb hV hI
     go_wp2
     go_region
     go_wp2
     refine bodyPost_ret (v := .tuple #[.slice (some ⟨r,0,none⟩) k k, .agg #[.int .i64 V, .int .i64 I], .int .u8 0]) (by simp [results,Tryz.results32,go_sem,d0,d1]) rfl ?_
     refine ⟨some ⟨r,0,none⟩,k,by rw [HHH.out,HV.out,HI.out],?_,?_⟩
     · refine ⟨?_,fun _ b' o' e=>by cases e;omega⟩
       refine IntsAt.of_row (((HR.out.setOther (by simp;omega) _).setOther (by simp;omega) _).drew) (by simp [Dlt.unpackL]) fun j hj => ?_
       have hj':j<k:=by simpa [Dlt.unpackL] using hj
       rw [if_pos hj',Dlt.unpackL,HHH.out]
       simp [List.getD_eq_getElem?_getD,List.getElem?_range hj']
     · exact ((HB.out.setCell (by simp) _).setCell (by simp) _).drew
end
end Go.Proofs.YtbcgnddpkiemoaaGreat
namespace Go.Proofs.YtbcgnddpkiemoaaGreat
attribute [local go_sem] zaa zad
open Go.RowKit
theorem zjs (A:Option Addr) (bs:List Int) (cap:Nat) (w:World) (hA:IntsAt w w.heap.size .u8 A bs) (hz:Within 0 255 bs) (hok:Dlt.okB bs 0) (hcap:bs.length≤cap) :
 Calls Tryz.prog 32 #[.slice A bs.length cap, .int .i64 0] w fun e w' => ∃ (A':Option Addr) (c':Nat),e = .returned (.tuple #[.slice A' 0 c', .agg #[.int .i64 (Dlt.dAt (Dlt.headS bs) bs 0).1, .int .i64 (Dlt.dAt (Dlt.headS bs) bs 0).2], .int .u8 0]) ∧
  IntsAt w' w'.heap.size .i16 A' (Dlt.unpackL bs 0)∧Below w.heap.size w w':=by
 have HVAL:=Z9 (Dlt.headS_valid bs 0 hok hz)
 obtain ⟨ok1,ok2,ok3,ok4⟩:=hok
 obtain ⟨b,off,rfl,hbB,qc⟩:=hA (by omega)
 have c0:=qc 0 (by omega)
 have c1:=qc 1 (by omega)
 have c2:=qc 2 (by omega)
 have c3:=qc 3 (by omega)
 obtain ⟨a0,a1⟩:=hz.at (i:=0) (by omega)
 obtain ⟨b0,b1⟩:=hz.at (i:=1) (by omega)
 obtain ⟨g0,g1⟩:=hz.at (i:=2) (by omega)
 have hb':b≠w.heap.size:=by omega
 have hb'':b≠w.heap.size+1:=by omega
 generalize hx0:bs.getD 0 0=x0 at *
 generalize hx1:bs.getD 1 0=x1 at *
 generalize hx2:bs.getD 2 0=x2 at *
 generalize hx3:bs.getD 3 0=x3 at *
 have HX3:=Z9 (show bs.getD 3 0=0 by rw [hx3,ok3])
 subst ok3
 have HX0:=Z9 hx0
 have HX1:=Z9 hx1
 have HX2:=Z9 hx2
 have HCELL:=Z9 qc
 have HZ:=Z9 hz
 generalize hM:bs.length=M at *
 have HMM:=Z9 hM
 clear hA hz qc hx0 hx1 hx2 hM
 obtain rfl:M=4:=by omega
 clear ok1 ok4
 have cc0:(w.alloc (.cells #[.int .i64 0, .int .i64 0] 30)).cell? ⟨b,off,none⟩=some (.int .u8 x0):=(World.cell?_alloc_lt w _ _ hbB).trans c0
 have cc1:(w.alloc (.cells #[.int .i64 0, .int .i64 0] 30)).cell? ⟨b,off+1,none⟩=some (.int .u8 x1):=(World.cell?_alloc_lt w _ _ hbB).trans c1
 have cc2:(w.alloc (.cells #[.int .i64 0, .int .i64 0] 30)).cell? ⟨b,off+2,none⟩=some (.int .u8 x2):=(World.cell?_alloc_lt w _ _ hbB).trans c2
 have cc3:(w.alloc (.cells #[.int .i64 0, .int .i64 0] 30)).cell? ⟨b,off+3,none⟩=some (.int .u8 0):=(World.cell?_alloc_lt w _ _ hbB).trans c3
 have cd0:((w.alloc (.cells #[.int .i64 0, .int .i64 0] 30)).alloc (.cells #[.int .i64 0, .int .i64 0] 30)).cell? ⟨b,off,none⟩=some (.int .u8 x0):=(World.cell?_alloc_lt _ _ _ (by simp;omega)).trans ((World.cell?_alloc_lt w _ _ hbB).trans c0)
 have cd1:((w.alloc (.cells #[.int .i64 0, .int .i64 0] 30)).alloc (.cells #[.int .i64 0, .int .i64 0] 30)).cell? ⟨b,off+1,none⟩=some (.int .u8 x1):=(World.cell?_alloc_lt _ _ _ (by simp;omega)).trans ((World.cell?_alloc_lt w _ _ hbB).trans c1)
 have cd2:((w.alloc (.cells #[.int .i64 0, .int .i64 0] 30)).alloc (.cells #[.int .i64 0, .int .i64 0] 30)).cell? ⟨b,off+2,none⟩=some (.int .u8 x2):=(World.cell?_alloc_lt _ _ _ (by simp;omega)).trans ((World.cell?_alloc_lt w _ _ hbB).trans c2)
 clear c0 c1 c2 c3
 go_enter Tryz.func32,Tryz.ntmps32
 go_wp2_with fail
 refine (zau 0 _ (by omega)).mono ?_
 rintro e w' ⟨rfl,rfl⟩
 go_wp2_with fail
 refine (zau 0 _ (by omega)).mono ?_
 rintro e w' ⟨rfl,rfl⟩
 have HI2:=Z9 zgw
 have hz89:=zjz
 all_goals
  go_wp2_with fail
  go_region
  go_wp2_with fail
  have hhw:=zhw x0 x1 a0 a1 b0 b1
  generalize wrap64 (IntKind.i16.wrap (bits BinOp.or IntKind.u16 (x0*256) x1))=V0 at *
  refine (zej _).mono ?_
  rintro e w3 ⟨rfl,hb3⟩
  have b0:Blk ((w.alloc (.cells #[.int .i64 0, .int .i64 0] 30)).alloc (.cells #[.int .i64 V0, .int .i64 x2] 30)).drew w.heap.size 30 #[.int .i64 0, .int .i64 0]:=((Blk.new w _ _).alloc _).drew
  have b1:Blk ((w.alloc (.cells #[.int .i64 0, .int .i64 0] 30)).alloc (.cells #[.int .i64 V0, .int .i64 x2] 30)).drew (w.heap.size+1) 30 #[.int .i64 V0, .int .i64 x2]:=by
   have h:=Blk.new (w.alloc (.cells #[.int .i64 0, .int .i64 0] 30)) 30 #[.int .i64 V0, .int .i64 x2]
   rw [show (w.alloc (.cells #[.int .i64 0, .int .i64 0] 30)).heap.size=w.heap.size+1 by simp] at h
   exact h.drew
  have hbw:Below w.heap.size w ((w.alloc (.cells #[.int .i64 0, .int .i64 0] 30)).alloc (.cells #[.int .i64 V0, .int .i64 x2] 30)).drew:=(((Below.refl _ w).alloc (Nat.le_refl _) _).alloc (by simp) _).drew
  have hs3:w.heap.size+1+1≤w3.heap.size:=by have:=hb3.size;simpa using this
  have HB0:=Z9 ((b0.later hb3).later (zba w3))
  have HB1:=Z9 ((b1.later hb3).later (zba w3))
  have HBW:=Z9 ((hbw.trans (hb3.mono hbw.size)).trans ((zba w3).mono (by omega)))
  have HST:=Z9 (zdl w3)
  have HT:=Z9 (zcj w3)
  have HSZ:=Z9 (zev w3)
  have hmk:=run_make_row' (P:=Tryz.prog) 51 104 (.int .i16 0) 2 Tryz.underlying51 zoa rfl .i64 .i64 0 (by omega) (by omega) (laidW w3)
  change (Instr.makeSlice 51 (.int .i64 0) (.int .i64 0)).run Tryz.prog _=_ at hmk
  clear b0 b1 hbw hb3 cc0 cc1 cc2 cc3 cd0 cd1 cd2
  go_wp2_with (first
   | (refine wpList_store_mid rfl 196 (.tmp 9) (.tmp 82) (by rfl) w3.heap.size 0 Dlt.szA (by rfl) (by rfl) HT.out HI2.out ziw ?_;change wpList _ _ _ _ _ (laidW w3);generalize laidW w3=W4 at *; generalize w3.heap.size=gt at *; clear hz89 HT HI2)
   | fail)
  have HH:Hid (Dlt.headS bs=(V0,x2)):=Z9 (by unfold Dlt.headS;rw [HX0.out,HX1.out,HX2.out,hhw])
  have HSV0:Hid (Dlt.valid V0 x2=true):=Z9 (by have h:=HVAL.out;rw [HH.out] at h;exact h)
  generalize hr:W4.heap.size=r at *
  have hs4:w.heap.size+1+1≤r:=by have:=HSZ.out;omega
  have HSZ':=Z9 HSZ.out
  clear hmk hhw
  go_loopw [86] (fun q wr=>q = .int .i64 0∧Blk wr w.heap.size 30 #[.int .i64 0, .int .i64 0] ∧
   Blk wr (w.heap.size+1) 30 #[.int .i64 V0, .int .i64 x2]∧Below w.heap.size w wr)
   (fun q _=>0)
  case atStart=>exact ⟨rfl,HB0.out.alloc _,HB1.out.alloc _,HBW.out.alloc (by omega) _⟩
  case round =>
   obtain ⟨rfl,B0,B1,hb⟩:=hrel
   clear HB0 HB1 HST HBW
   have HHH:=Z9 (show Dlt.headS bs=(V0,x2) from HH.out)
   have HB:=Z9 hb
   have c0:=B1.at 0 _ rfl
   have c1:=B1.at 1 _ rfl
   have d0:=B0.at 0 _ rfl
   have d1:=B0.at 1 _ rfl
   have f0:=B0.frozen 0
   have f1:=B0.frozen 1
   clear B0 B1 hb
   go_wp2
   go_region
   go_wp2
   refine bodyPost_ret (v := .tuple #[.slice (some ⟨r,0,none⟩) 0 0, .agg #[.int .i64 V0, .int .i64 x2], .int .u8 0]) (by simp [results,Tryz.results32,go_sem,d0,d1]) rfl ?_
   refine ⟨some ⟨r,0,none⟩,0,by rw [HHH.out];rfl,?_,?_⟩
   · exact IntsAt.nil
   · exact ((HB.out.setCell (by simp) _).setCell (by simp) _).drew
def Dlt.rowK (s:Int×Int) (zs:List Int) (k:Nat):List Value:=(List.range (4+(k+1) / 2)).map fun j=>Value.int .u8 (Dlt.packAt s zs k j)
end Go.Proofs.YtbcgnddpkiemoaaGreat
namespace Go.Proofs.YtbcgnddpkiemoaaGreat
open Go.RowKit
def Dlt.encR (v i x:Int):Int×Int×Int×Int:=if Dlt.valid v i=true then (Dlt.code v i x,Dlt.nextV v i (Dlt.code v i x),Dlt.nextI i (Dlt.code v i x),0) else (0,0,0,2)
def Dlt.decR (v i c:Int):Int×Int×Int×Int:=if Dlt.valid v i=true then (if c≤15 then (Dlt.nextV v i c,Dlt.nextV v i c,Dlt.nextI i c,0) else (0,0,0,3)) else (0,0,0,2)
def Dlt.packR (v i:Int) (zs:List Int):List Int×Int×Int×Int :=
 if Dlt.valid v i=true then (if zs.length≤8000 then (Dlt.packB (v,i) zs,(Dlt.stAt (v,i) zs zs.length).1,(Dlt.stAt (v,i) zs zs.length).2,0) else ([],0,0,4)) else ([],0,0,2)
def Dlt.unpR (bs:List Int) (n:Int):List Int×Int×Int×Int :=
 if n<0∨8000<n then ([],0,0,3) else if bs.length<4+(n.toNat+1) / 2 then ([],0,0,6) else
  if Dlt.okB bs n.toNat then (Dlt.unpackL bs n.toNat,(Dlt.dAt (Dlt.headS bs) bs n.toNat).1,(Dlt.dAt (Dlt.headS bs) bs n.toNat).2,0) else ([],0,0,5)
section
variable (v i x:Int) (w:World)
variable (A:Option Addr) (zs:List Int) (cap:Nat)
variable (bs:List Int) (n:Int)
theorem Dlt.unpackL_len (bs:List Int) (n:Nat):(Dlt.unpackL bs n).length=n:=by simp [Dlt.unpackL]
end
end Go.Proofs.YtbcgnddpkiemoaaGreat
namespace Go.Proofs.YtbcgnddpkiemoaaGreat
attribute [local go_sem ↓] zab zac
attribute [local go_sem] zaa zad
open Go.RowKit
def DecR (zs:List Int) (er:Int) (w:World) (e:Ending) (w':World):Prop:=∃ (A':Option Addr) (c':Nat),e = .returned (.tuple #[.slice A' zs.length c', .int .u8 er])∧IntsNew w.heap.size w' .i16 A' zs∧Below w.heap.size w w'
theorem zfh (A:Option Addr) (bs:List Int) (cap:Nat) (n:Int) (w:World) (hA:IntsAt w w.heap.size .u8 A bs) (hz:Within 0 255 bs) (hcap:bs.length≤cap) (hmax:bs.length≤maxLen) :
 Calls Tryz.prog 32 #[.slice A bs.length cap, .int .i64 n] w fun e w' => ∃ (A':Option Addr) (c':Nat),e = .returned (.tuple #[.slice A' (Dlt.unpR bs n).1.length c', .agg #[.int .i64 (Dlt.unpR bs n).2.1, .int .i64 (Dlt.unpR bs n).2.2.1], .int .u8 (Dlt.unpR bs n).2.2.2]) ∧
  IntsNew w.heap.size w' .i16 A' (Dlt.unpR bs n).1∧Below w.heap.size w w':=by
 unfold Dlt.unpR
 by_cases hr:n<0∨8000<n
 · rw [if_pos hr]
   refine (zhx n A bs.length cap w hr).mono ?_
   rintro e w' ⟨rfl,hb⟩
   exact ⟨none,0,rfl,IntsNew.nil,hb⟩
 · rw [if_neg hr]
   obtain ⟨m,rfl⟩:=Int.eq_ofNat_of_zero_le (a:=n) (by omega)
   rw [Int.toNat_natCast]
   by_cases hs:bs.length<4+(m+1) / 2
   · rw [if_pos hs]
     refine (zhy m A bs.length cap w (by omega) hs).mono ?_
     rintro e w' ⟨rfl,hb⟩
     exact ⟨none,0,rfl,IntsNew.nil,hb⟩
   · rw [if_neg hs]
     by_cases hk:Dlt.okB bs m
     · rw [if_pos hk]
       rcases Nat.eq_zero_or_pos m with h0|h0
       · subst h0
         refine (zjs A bs cap w hA hz hk hcap).mono ?_
         rintro e w' ⟨A',c',rfl,h,hb⟩
         exact ⟨A',c',rfl,⟨h,fun h0=>absurd h0 (by simp [Dlt.unpackL])⟩,hb⟩
       · refine (zmr m A bs cap w (by omega) h0 hA hz hk hcap).mono ?_
         rintro e w' ⟨A',c',rfl,h⟩
         exact ⟨A',c',by rw [Dlt.unpackL_len],h⟩
     · rw [if_neg hk]
       refine (zgx m A bs cap w (by omega) hA hz (by omega) hk hmax).mono ?_
       rintro e w' ⟨rfl,hb⟩
       exact ⟨none,0,rfl,IntsNew.nil,hb⟩
theorem zte (n:Int) (A:Option Addr) (bs:List Int) (c b:Nat) (w:World) (hA:IntsAt w w.heap.size .u8 A bs) (hz:Within 0 255 bs) (h8:bs.length≤8000) (hb:Blk w b 5 #[.int .u8 1]):Calls Tryz.prog 122 #[.slice A bs.length c, .int .i64 n, .pointer (some ⟨b,0,none⟩)] w (DecR (bs.map Cmp.fromMuZ) 0 w):=by
 have k1:=Z9 fun (W:World) hW=>zdq A bs c W hW hz h8
 have IA:=Z9 hA
 have BB:=Z9 hb
 have hlt:=hb.lt
 clear hA hb hz
 go_enter Tryz.func122,Tryz.ntmps122
 have d0:=BB.out.at 0 _ rfl
 go_wp2_with fail
 refine (k1.out _ IA.out).mono ?_
 rintro e w1 ⟨A1,rfl,hI,hb1⟩
 clear d0
 go_wp2_with fail
 exact bodyPost_ret (v := .tuple #[.slice A1 bs.length bs.length, .int .u8 0]) (by simp [results,Tryz.results122,go_sem]) rfl ⟨A1,bs.length,by rw [List.length_map],hI,hb1⟩
theorem zxo (n:Int) (A:Option Addr) (bs:List Int) (c b:Nat) (w:World) (hA:IntsAt w w.heap.size .u8 A bs) (hz:Within 0 255 bs) (h8:bs.length≤8000) (hb:Blk w b 5 #[.int .u8 2]):Calls Tryz.prog 122 #[.slice A bs.length c, .int .i64 n, .pointer (some ⟨b,0,none⟩)] w (DecR (bs.map Cmp.fromAZ) 0 w):=by
 have k1:=Z9 fun (W:World) hW=>zfg A bs c W hW hz h8
 have IA:=Z9 hA
 have BB:=Z9 hb
 have hlt:=hb.lt
 clear hA hb hz
 go_enter Tryz.func122,Tryz.ntmps122
 have d0:=BB.out.at 0 _ rfl
 go_wp2_with fail
 refine (k1.out _ IA.out).mono ?_
 rintro e w1 ⟨A1,rfl,hI,hb1⟩
 clear d0
 go_wp2_with fail
 exact bodyPost_ret (v := .tuple #[.slice A1 bs.length bs.length, .int .u8 0]) (by simp [results,Tryz.results122,go_sem]) rfl ⟨A1,bs.length,by rw [List.length_map],hI,hb1⟩
theorem zpx (n:Int) (A:Option Addr) (bs:List Int) (c:Nat) (w:World) (hA:IntsAt w w.heap.size .u8 A bs) (hz:Within 0 255 bs) (hc:bs.length≤c) (hm:bs.length≤maxLen):Calls Tryz.prog 84 #[.slice A bs.length c, .int .i64 n] w (DecR (Dlt.unpR bs n).1 (Dlt.unpR bs n).2.2.2 w):=by
 have k1:=Z9 fun (W:World) hW=>zfh A bs c n W hW hz hc hm
 generalize Dlt.unpR bs n=R at *
 obtain ⟨R1,R2,R3,R4⟩:=R
 have IA:=Z9 hA
 clear hA hz
 go_enter Tryz.func84,Tryz.ntmps84
 go_wp2_with fail
 refine (k1.out _ IA.out).mono ?_
 rintro e w1 ⟨A1,c1,rfl,hI,hb1⟩
 have HI:=Z9 hI
 have U:=Z9 hb1
 clear hI hb1
 go_wp2_with fail
 go_ret2
 exact ⟨A1,c1,rfl,HI.out.push _,Bel.push U.out _⟩
end Go.Proofs.YtbcgnddpkiemoaaGreat
namespace Go.Proofs.YtbcgnddpkiemoaaGreat
open Go.RowKit
theorem zhg (v i:Int) (A:Option Addr) (zs:List Int) (cap:Nat) (w:World) (hv:Dlt.valid v i=true) (hA:IntsAt w w.heap.size .i16 A zs) (hz:Within (-32768) 32767 zs) (h8:zs.length≤8000) (h0:0<zs.length) :
 Calls Tryz.prog 30 #[.agg #[.int .i64 v, .int .i64 i], .slice A zs.length cap] w fun e w' => ∃ (A':Option Addr) (c':Nat),e = .returned (.tuple #[.slice A' (4+(zs.length+1) / 2) c', .agg #[.int .i64 (Dlt.stAt (v,i) zs zs.length).1, .int .i64 (Dlt.stAt (v,i) zs zs.length).2], .int .u8 0]) ∧
  4+(zs.length+1) / 2≤c'∧IntsNew w.heap.size w' .u8 A' (Dlt.packB (v,i) zs)∧Below w.heap.size w w':=by
 have hz89:=zjz
 have HI2:=Z9 zgw
 obtain ⟨N,hN⟩:∃ N,N=4+(zs.length+1) / 2:=⟨_,rfl⟩
 have hN1:5≤N:=by omega
 have hN2:N≤4004:=by omega
 have HN:=Z9 hN
 clear hN
 obtain ⟨W0,hW0⟩:∃ W0,W0=((w.alloc (.cells #[.int .i64 v, .int .i64 i] 30)).alloc (.cells #[.int .i64 0, .int .i64 0] 30)).alloc (.cells #[.int .i64 v, .int .i64 i] 30):=⟨_,rfl⟩
 obtain ⟨W1,hW1⟩:∃ W1,W1=W0.alloc (.cells (madeCells #[.int .u8 0] N) 5):=⟨_,rfl⟩
 have hs0:W0.heap.size=w.heap.size+1+1+1:=by rw [hW0];simp
 have hs1:W1.heap.size=w.heap.size+1+1+1+1:=by rw [hW1];simp [hs0]
 have B0:Blk W1 w.heap.size 30 #[.int .i64 v, .int .i64 i]:=by rw [hW1,hW0];exact ((((Blk.new w _ _).alloc _).alloc _).alloc _)
 have B1:Blk W1 (w.heap.size+1) 30 #[.int .i64 0, .int .i64 0]:=by
  have h:=Blk.new (w.alloc (.cells #[.int .i64 v, .int .i64 i] 30)) 30 #[.int .i64 0, .int .i64 0]
  rw [show (w.alloc (.cells #[.int .i64 v, .int .i64 i] 30)).heap.size=w.heap.size+1 by simp] at h
  rw [hW1,hW0];exact ((h.alloc _).alloc _)
 have R:W1.rowIs (w.heap.size+1+1+1) 5 N (fun _ => .int .u8 0):=by rw [hW1,← hs0];exact World.rowIs_made W0 _ _ _
 have hbw:Below w.heap.size w W1:=by
  rw [hW1,hW0];exact ((((Below.refl _ w).alloc (Nat.le_refl _) _).alloc (by simp) _).alloc (by simp;omega) _).alloc (by simp;omega) _
 have hmk:=run_make_row' (P:=Tryz.prog) 69 5 (.int .u8 0) 1 Tryz.underlying69 zwg rfl .i64 .i64 N (by omega) (by omega) W0
 rw [← hW1,hs0,hW0] at hmk
 have c0:=B0.at 0 _ rfl
 have c1:=B0.at 1 _ rfl
 have r0:=R.cell (i:=0) (by omega)
 have r1:=R.cell (i:=1) (by omega)
 have r2:=R.cell (i:=2) (by omega)
 have q0:=R.frozen 0
 have q1:=R.frozen 1
 have q2:=R.frozen 2
 have HB0:=Z9 B0
 have HB1:=Z9 B1
 have HR:=Z9 R
 have HBW:=Z9 hbw
 have HS1:=Z9 hs1
 clear hW1 hs0 hW0 hs1 B0 B1 R hbw
 have hi0:(0:Int)<(N:Int):=by omega
 have hi1:(1:Int)<(N:Int):=by omega
 have hi2:(2:Int)<(N:Int):=by omega
 go_enter Tryz.func30,Tryz.ntmps30
 go_wp2_with fail
 refine (zhv v i _).mono ?_
 rintro e w' ⟨rfl,rfl⟩
 rw [hv]
 go_wp2_with fail
 refine (zau _ _ h8).mono ?_
 rintro e w' ⟨rfl,rfl⟩
 rw [← HN.out]
 go_wp2_with fail
 clear hmk
 go_region
 go_wp2_with fail
 refine (zej _).mono ?_
 rintro e w3 ⟨rfl,hb3⟩
 have e1:W1.heap.size=w.heap.size+1+1+1+1:=HS1.out
 have hrow:(((W1.setCell ⟨w.heap.size+1+1+1,0,none⟩ (.int .u8 (IntKind.u16.wrap v / 256 % 256))).setCell ⟨w.heap.size+1+1+1,1,none⟩ (.int .u8 (IntKind.u16.wrap v % 256))).setCell ⟨w.heap.size+1+1+1,2,none⟩ (.int .u8 (i % 256))).drew.rowIs (w.heap.size+1+1+1) 5 N (fun j => .int .u8 (Dlt.packAt (v,i) zs 0 j)) :=
  (((HR.out.set 0 _).set 1 _).set 2 _).congr fun j hj => by
    obtain ⟨g1,g2,g3,g4⟩:=zci hv
    unfold Dlt.packAt Dlt.part
    rw [IntKind.wrap_u16]
    by_cases h2:j=2
    · subst h2;simp;omega
    · by_cases h1:j=1
      · subst h1;simp
      · by_cases h0:j=0
        · subst h0;simp;omega
        · simp [h0,h1,h2]
 have b0:Blk (((W1.setCell ⟨w.heap.size+1+1+1,0,none⟩ (.int .u8 (IntKind.u16.wrap v / 256 % 256))).setCell ⟨w.heap.size+1+1+1,1,none⟩ (.int .u8 (IntKind.u16.wrap v % 256))).setCell ⟨w.heap.size+1+1+1,2,none⟩ (.int .u8 (i % 256))).drew w.heap.size 30 #[.int .i64 v, .int .i64 i] :=
  (((HB0.out.far (by simp;omega) _).far (by simp;omega) _).far (by simp;omega) _).drew
 have b1:Blk (((W1.setCell ⟨w.heap.size+1+1+1,0,none⟩ (.int .u8 (IntKind.u16.wrap v / 256 % 256))).setCell ⟨w.heap.size+1+1+1,1,none⟩ (.int .u8 (IntKind.u16.wrap v % 256))).setCell ⟨w.heap.size+1+1+1,2,none⟩ (.int .u8 (i % 256))).drew (w.heap.size+1) 30 #[.int .i64 0, .int .i64 0] :=
  (((HB1.out.far (by simp) _).far (by simp) _).far (by simp) _).drew
 have hbw2:Below w.heap.size w (((W1.setCell ⟨w.heap.size+1+1+1,0,none⟩ (.int .u8 (IntKind.u16.wrap v / 256 % 256))).setCell ⟨w.heap.size+1+1+1,1,none⟩ (.int .u8 (IntKind.u16.wrap v % 256))).setCell ⟨w.heap.size+1+1+1,2,none⟩ (.int .u8 (i % 256))).drew :=
  (((HBW.out.setCell (by simp;omega) _).setCell (by simp;omega) _).setCell (by simp;omega) _).drew
 have hs3:w.heap.size+1+1+1+1≤w3.heap.size:=by have:=hb3.size;simpa [e1,World.setCell] using this
 have HB0':=Z9 ((b0.later hb3).later (zba w3))
 have HB1':=Z9 ((b1.later hb3).later (zba w3))
 have HR':=Z9 (zbf (zbf hrow hb3 hrow.lt) (zba w3) (zbf hrow hb3 hrow.lt).lt)
 have HBW':=Z9 ((hbw2.trans (hb3.mono hbw2.size)).trans ((zba w3).mono (by omega)))
 have HST:=Z9 (zdl w3)
 have HT:=Z9 (zcj w3)
 clear hrow b0 b1 hbw2 hb3 HB0 HB1 HR HBW HS1 c0 c1 r0 r1 r2 q0 q1 q2 e1
 go_wp2_with (first
  | (refine wpList_store_mid rfl 196 (.tmp 10) (.tmp 48) (by rfl) w3.heap.size 0 Dlt.szA (by rfl) (by rfl) HT.out HI2.out ziw ?_;change wpList _ _ _ _ _ (laidW w3);generalize laidW w3=W4 at *; generalize w3.heap.size=gt at *; clear hz89 HT HI2)
  | fail)
 go_loopw [51] (fun q wr => ∃ k:Nat,k≤zs.length∧q = .int .i64 k∧Blk wr w.heap.size 30 #[.int .i64 (Dlt.stAt (v,i) zs k).1, .int .i64 (Dlt.stAt (v,i) zs k).2] ∧
  Blk wr (w.heap.size+1) 30 #[.int .i64 0, .int .i64 0]∧wr.rowIs (w.heap.size+1+1+1) 5 N (fun j => .int .u8 (Dlt.packAt (v,i) zs k j))∧StepsAt wr gt∧Below w.heap.size w wr)
  (fun q _=>zs.length-(intOf q).toNat)
 case atStart=>exact ⟨0,Nat.zero_le _,rfl,HB0'.out,HB1'.out,HR'.out,HST.out,HBW'.out⟩
 case round =>
  obtain ⟨k,hk,rfl,B0,B1,R,hst,hb⟩:=hrel
  clear HB0' HB1' HR' HST HBW'
  have HSV:=Z9 (Dlt.stAt_valid (v,i) hv zs k)
  by_cases hlt:k<zs.length
  · obtain ⟨b,off,rfl,hbB,qc⟩:=hA (by omega)
    have hzk:=hz.at hlt
    have hck:wr.cell? ⟨b,off+k,none⟩=some (.int .i16 (zs.getD k 0)):=(hb.cell (p:=⟨b,off+k,none⟩) hbB).trans (qc k hlt)
    have HS:=Z9 (Dlt.stAt_succ (v,i) zs k hlt)
    have hcd:Dlt.code (Dlt.stAt (v,i) zs k).1 (Dlt.stAt (v,i) zs k).2 (zs.getD k 0)=Dlt.codeAt (v,i) zs k:=rfl
    obtain ⟨k0,k1⟩:=Dlt.codeAt_bd (v,i) zs k
    generalize hcc:Dlt.codeAt (v,i) zs k=c at *
    have HCC:=Z9 hcc
    generalize zs.getD k 0=z at hck hzk hcd
    have HC:=Z9 hcd
    obtain ⟨z0,z1⟩:=hzk
    clear qc hcd hcc
    generalize hV:(Dlt.stAt (v,i) zs k).1=V at *
    generalize hI:(Dlt.stAt (v,i) zs k).2=I at *
    have HV:=Z9 hV
    have HI:=Z9 hI
    have c0:=B0.at 0 _ rfl
    have c1:=B0.at 1 _ rfl
    have HB0:=Z9 B0
    have HB1:=Z9 B1
    have HR:=Z9 R
    have HST:=Z9 hst
    have HB:=Z9 hb
    have hn0:(0:Int)≤(k:Int):=by omega
    have hn1:(k:Int)<(zs.length:Int):=by omega
    clear B0 B1 R hst hb hV hI
    go_wp2
    go_still_tail 6,(by kernel_rfl)
    change wpList _ _ _ _ _ wr.drew
    go_wp2_with fail
    refine (zlo gt V I z wr.drew HST.out HSV.out z0 z1).mono ?_
    rintro e w5 ⟨rfl,hb5⟩
    rw [HC.out]
    have HB05:=Z9 (HB0.out.drew.later hb5)
    have HB15:=Z9 (HB1.out.drew.later hb5)
    have HR5:=Z9 (zbf HR.out.drew hb5 HR.out.lt)
    have HST5:=Z9 (StepsAt.below (w:=wr.drew) HST.out hb5)
    have HBW5:=Z9 (HB.out.drew.trans (hb5.mono HB.out.size))
    clear hb5 HB0 HB1 HR HST HB c0 c1 hck
    have c0:=HB05.out.at 0 _ rfl
    have c1:=HB05.out.at 1 _ rfl
    go_wp2_with fail
    refine (zdk gt V I c _ HST5.out HSV.out k0 k1).mono ?_
    rintro e w6 ⟨rfl,hb6⟩
    have HB06:=Z9 (HB05.out.later hb6)
    have HB16:=Z9 (HB15.out.later hb6)
    have HR6:=Z9 (zbf HR5.out hb6 HR5.out.lt)
    have HST6:=Z9 (HST5.out.below hb6)
    have HBW6:=Z9 (HBW5.out.trans (hb6.mono HBW5.out.size))
    clear hb6 HB05 HB15 HR5 HST5 HBW5 c0 c1
    have c0:=HB06.out.at 0 _ rfl
    have c1:=HB06.out.at 1 _ rfl
    have f0:=HB06.out.frozen 0
    have f1:=HB06.out.frozen 1
    have hM:k / 2+4<N:=by rw [HN.out];omega
    have hM1:(k:Int) / 2<((N-4:Nat):Int):=by omega
    have hM0:(0:Int)≤(k:Int) / 2:=by omega
    have hrc:w6.cell? ⟨w.heap.size+1+1+1,4+k / 2,none⟩=some (.int .u8 (Dlt.part (v,i) zs k (k / 2))):=by rw [HR6.out.cell (by omega),Dlt.packAt_body]
    have hrf:=HR6.out.frozen (4+k / 2)
    have hd1:w.heap.size≠w.heap.size+1+1+1:=by omega
    have hd2:w.heap.size+1+1+1≠w.heap.size:=by omega
    by_cases hpar:k % 2=0
    · have hpe:=Dlt.part_even (v,i) zs k hpar
      rw [hpe.1] at hrc
      have HPE:=Z9 hpe.2
      have hpar':(k:Int) % 2=0:=by omega
      clear hpe hpar
      go_wp2
      go_roundw
      case rel =>
       have h:=zfx hs3 HB06.out HB16.out HR6.out HST6.out HBW6.out (c*16) (by rw [HPE.out,HCC.out];omega) HS.out
       exact ⟨k+1,by omega,by go_num,h⟩
      case measure=>simp [intOf];omega
    · have hpo:=Dlt.part_odd (v,i) zs k (by omega)
      obtain ⟨p0,p1⟩:=Dlt.codeAt_bd (v,i) zs (k-1)
      rw [hpo.1] at hrc
      have HPE:=Z9 hpo.2
      generalize Dlt.codeAt (v,i) zs (k-1)=cp at *
      have hpar':(k:Int) % 2=1:=by omega
      clear hpo hpar
      go_wp2
      go_roundw
      case rel =>
       have h:=zfx hs3 HB06.out HB16.out HR6.out HST6.out HBW6.out (16*cp+c) (by rw [HPE.out,HCC.out]) HS.out
       exact ⟨k+1,by omega,by go_num,h⟩
      case measure=>simp [intOf];omega
  · obtain rfl:k=zs.length:=by omega
    clear hA hz
    have HB0:=Z9 B0
    have HB1:=Z9 B1
    have HR:=Z9 R
    have HB:=Z9 hb
    generalize hV:(Dlt.stAt (v,i) zs zs.length).1=V at *
    generalize hI:(Dlt.stAt (v,i) zs zs.length).2=I at *
    have HV:=Z9 hV
    have HI:=Z9 hI
    have c0:=B0.at 0 _ rfl
    have c1:=B0.at 1 _ rfl
    have d0:=B1.at 0 _ rfl
    have d1:=B1.at 1 _ rfl
    have f0:=B1.frozen 0
    have f1:=B1.frozen 1
    clear B0 B1 R hst hb hV hI
    go_wp2
    go_region
    go_wp2
    refine bodyPost_ret (v := .tuple #[.slice (some ⟨w.heap.size+1+1+1,0,none⟩) N N, .agg #[.int .i64 V, .int .i64 I], .int .u8 0]) (by simp [results,Tryz.results30,go_sem,d0,d1]) rfl ?_
    have hbd:=Dlt.packAt_bd (v,i) hv zs zs.length
    refine ⟨some ⟨w.heap.size+1+1+1,0,none⟩,N,by rw [HV.out,HI.out,HN.out],by rw [HN.out];omega,?_,?_⟩
    · refine ⟨?_,fun _ b' o' e=>by cases e;omega⟩
      refine IntsAt.of_row (((HR.out.setOther (by simp;omega) _).setOther (by simp;omega) _).drew) (by rw [Dlt.packB_len,HN.out];omega) fun j hj => ?_
      rw [Dlt.packB_len] at hj
      rw [Dlt.packB_at _ _ _ hj]
    · exact ((HB.out.setCell (by simp) _).setCell (by simp) _).drew
end Go.Proofs.YtbcgnddpkiemoaaGreat
