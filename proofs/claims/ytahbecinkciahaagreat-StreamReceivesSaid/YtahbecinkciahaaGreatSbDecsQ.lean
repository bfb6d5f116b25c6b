/- Layer 32: what decoders make is new (Unpack of the two laws, Noise, Unpack of delta). -/
import Derived.Test.YtahbecinkciahaaGreatSs9Q
import Derived.Test.YtahbecinkciahaaGreatJtPnQ
import Derived.Deep.RegionHeld3
import Derived.Deep.RegionWith
import Derived.RegionTactic
import Derived.ChangeAlike
set_option linter.unusedVariables false
set_option linter.unusedSimpArgs false
set_option maxRecDepth 100000
set_option maxHeartbeats 12800000
namespace Go.Proofs.YtahbecinkciahaaGreat
open Go.RowKit
section
theorem zoe (A:Option Addr) (zs:List Int) (cap:Nat) (w:World) (hA:IntsAt w w.heap.size .u8 A zs) (hz:Within (0) 255 zs) (h8:zs.length≤8000) :
 Calls Tryz.prog 139 #[.int .u8 1, .slice A zs.length cap] w fun e w' => ∃ A':Option Addr,e = .returned (.tuple #[.slice A' zs.length zs.length, .int .u8 0]) ∧
  IntsNew w.heap.size w' .i16 A' (zs.map Cmp.fromMuZ)∧Below w.heap.size w w':=by
 have hmk:=run_make_row' (P:=Tryz.prog) 66 93 (.int .i16 0) 2 Tryz.underlying66 zhk rfl .i64 .i64 zs.length (by omega) (by omega) w
 obtain ⟨W1,hW1⟩:∃ W1,W1=w.alloc (.cells (madeCells #[.int .i16 0] zs.length) 93):=⟨_,rfl⟩
 have hrow:W1.rowIs w.heap.size 93 zs.length (fun _ => .int .i16 0):=by rw [hW1];exact World.rowIs_made w _ _ _
 have qb:Below w.heap.size w W1:=by rw [hW1];exact (Below.refl _ _).alloc (Nat.le_refl _) _
 rw [← hW1] at hmk
 clear hW1
 go_enter Tryz.func139,Tryz.ntmps139
 go_wp2_with (go_at_call 161;refine (zpj _).mono ?_;rintro e w' ⟨rfl,rfl⟩)
 go_loopw [25] (fun i wr => ∃ k:Nat,k≤zs.length∧i = .int .i64 k∧wr.rowIs w.heap.size 93 zs.length (fun j => .int .i16 (if j<k then Cmp.fromMuZ (zs.getD j 0) else 0))∧Below w.heap.size w wr)
  (fun i _=>zs.length-(intOf i).toNat)
 case atStart=>exact ⟨0,Nat.zero_le _,rfl,hrow.congr (by simp),qb⟩
 case round =>
  obtain ⟨k,hk,rfl,hr,hb⟩:=hrel
  by_cases hlt:k<zs.length
  · obtain ⟨b,off,rfl,hbB,qc⟩:=hA (by omega)
    have hzk:=hz.at hlt
    have hck:wr.cell? ⟨b,off+k,none⟩=some (.int .u8 (zs.getD k 0)):=(hb.cell (p:=⟨b,off+k,none⟩) hbB).trans (qc k hlt)
    have hcr:wr.cell? ⟨w.heap.size,k,none⟩=some (.int .i16 0):=by rw [hr.cell hlt];simp
    have hfr:=hr.frozen k
    have hrl:=hr.lt
    have hn1:b≠w.heap.size:=by omega
    have hn2:w.heap.size≠b:=by omega
    have HR:=H9 hr
    have hbs:=hb.size
    clear hr qc hrow qb hmk
    generalize hzz:zs.getD k 0=z at hck hzk
    have HZ:=H9 hzz
    clear hzz
    obtain ⟨hz1,hz2⟩:=hzk
    have hi0:(0:Int)≤(k:Int):=by omega
    have hi1:(k:Int)<(zs.length:Int):=by omega
    have hna:=zik
    have hme:=zil
    go_wp2
    go_region_held3 (fun w'=>w'.cell? ⟨b,off+k,none⟩=some (.int .u8 z)) (go_keep)
     (first|(go_at_call 183;refine (zrw _ _ (by omega) (by omega)).mono ?_;rintro e w' ⟨rfl,rfl⟩)|fail)
    go_wp2
    go_roundw
    case rel =>
     refine ⟨k+1,by omega,by go_num,?_,((hb.setCell (Nat.le_refl _) _).alloc (by simpa using hbs) _).drew⟩
     rw [← HZ.out]
     exact (zbm (g:=fun j=>Cmp.fromMuZ (zs.getD j 0)) HR.out).alloc _
    case measure=>simp [intOf];omega
  · obtain rfl:k=zs.length:=by omega
    have HR:=H9 hr
    clear hr hrow qb hmk
    go_wp2
    go_ret2
    exact ⟨_,rfl,⟨IntsAt.of_fill HR.out,fun _ b' o' e=>by cases e;exact Nat.le_refl _⟩,hb⟩
theorem zqv (A:Option Addr) (zs:List Int) (cap:Nat) (w:World) (hA:IntsAt w w.heap.size .u8 A zs) (hz:Within (0) 255 zs) (h8:zs.length≤8000) :
 Calls Tryz.prog 139 #[.int .u8 2, .slice A zs.length cap] w fun e w' => ∃ A':Option Addr,e = .returned (.tuple #[.slice A' zs.length zs.length, .int .u8 0]) ∧
  IntsNew w.heap.size w' .i16 A' (zs.map Cmp.fromAZ)∧Below w.heap.size w w':=by
 have hmk:=run_make_row' (P:=Tryz.prog) 66 93 (.int .i16 0) 2 Tryz.underlying66 zhk rfl .i64 .i64 zs.length (by omega) (by omega) w
 obtain ⟨W1,hW1⟩:∃ W1,W1=w.alloc (.cells (madeCells #[.int .i16 0] zs.length) 93):=⟨_,rfl⟩
 have hrow:W1.rowIs w.heap.size 93 zs.length (fun _ => .int .i16 0):=by rw [hW1];exact World.rowIs_made w _ _ _
 have qb:Below w.heap.size w W1:=by rw [hW1];exact (Below.refl _ _).alloc (Nat.le_refl _) _
 rw [← hW1] at hmk
 clear hW1
 go_enter Tryz.func139,Tryz.ntmps139
 go_wp2_with (go_at_call 161;refine (ztu _).mono ?_;rintro e w' ⟨rfl,rfl⟩)
 go_loopw [25] (fun i wr => ∃ k:Nat,k≤zs.length∧i = .int .i64 k∧wr.rowIs w.heap.size 93 zs.length (fun j => .int .i16 (if j<k then Cmp.fromAZ (zs.getD j 0) else 0))∧Below w.heap.size w wr)
  (fun i _=>zs.length-(intOf i).toNat)
 case atStart=>exact ⟨0,Nat.zero_le _,rfl,hrow.congr (by simp),qb⟩
 case round =>
  obtain ⟨k,hk,rfl,hr,hb⟩:=hrel
  by_cases hlt:k<zs.length
  · obtain ⟨b,off,rfl,hbB,qc⟩:=hA (by omega)
    have hzk:=hz.at hlt
    have hck:wr.cell? ⟨b,off+k,none⟩=some (.int .u8 (zs.getD k 0)):=(hb.cell (p:=⟨b,off+k,none⟩) hbB).trans (qc k hlt)
    have hcr:wr.cell? ⟨w.heap.size,k,none⟩=some (.int .i16 0):=by rw [hr.cell hlt];simp
    have hfr:=hr.frozen k
    have hrl:=hr.lt
    have hn1:b≠w.heap.size:=by omega
    have hn2:w.heap.size≠b:=by omega
    have HR:=H9 hr
    have hbs:=hb.size
    clear hr qc hrow qb hmk
    generalize hzz:zs.getD k 0=z at hck hzk
    have HZ:=H9 hzz
    clear hzz
    obtain ⟨hz1,hz2⟩:=hzk
    have hi0:(0:Int)≤(k:Int):=by omega
    have hi1:(k:Int)<(zs.length:Int):=by omega
    have hna:=zjr
    have hme:=zjs
    go_wp2
    go_region_held3 (fun w'=>w'.cell? ⟨b,off+k,none⟩=some (.int .u8 z)) (go_keep)
     (first|(go_at_call 188;refine (zuq _ _ (by omega) (by omega)).mono ?_;rintro e w' ⟨rfl,rfl⟩)|fail)
    go_wp2
    go_roundw
    case rel =>
     refine ⟨k+1,by omega,by go_num,?_,((hb.setCell (Nat.le_refl _) _).alloc (by simpa using hbs) _).drew⟩
     rw [← HZ.out]
     exact (zbm (g:=fun j=>Cmp.fromAZ (zs.getD j 0)) HR.out).alloc _
    case measure=>simp [intOf];omega
  · obtain rfl:k=zs.length:=by omega
    have HR:=H9 hr
    clear hr hrow qb hmk
    go_wp2
    go_ret2
    exact ⟨_,rfl,⟨IntsAt.of_fill HR.out,fun _ b' o' e=>by cases e;exact Nat.le_refl _⟩,hb⟩
theorem ztk (A:Option Addr) (zs:List Int) (cap:Nat) (w:World) (hA:IntsAt w w.heap.size .i16 A zs) (hz:Within (-32768) 32767 zs) (h8:zs.length≤8000) :
 Calls Tryz.prog 137 #[.int .u8 1, .slice A zs.length cap] w fun e w' => ∃ A':Option Addr,e = .returned (.tuple #[.slice A' zs.length zs.length, .int .u8 0]) ∧
  IntsNew w.heap.size w' .u8 A' (zs.map Cmp.muZ)∧Below w.heap.size w w':=by
 have hmk:=run_make_row' (P:=Tryz.prog) 22 5 (.int .u8 0) 1 Tryz.underlying22 ztv rfl .i64 .i64 zs.length (by omega) (by omega) w
 obtain ⟨W1,hW1⟩:∃ W1,W1=w.alloc (.cells (madeCells #[.int .u8 0] zs.length) 5):=⟨_,rfl⟩
 have hrow:W1.rowIs w.heap.size 5 zs.length (fun _ => .int .u8 0):=by rw [hW1];exact World.rowIs_made w _ _ _
 have qb:Below w.heap.size w W1:=by rw [hW1];exact (Below.refl _ _).alloc (Nat.le_refl _) _
 rw [← hW1] at hmk
 clear hW1
 go_enter Tryz.func137,Tryz.ntmps137
 go_wp2_with (go_at_call 161;refine (zpj _).mono ?_;rintro e w' ⟨rfl,rfl⟩)
 go_loopw [25] (fun i wr => ∃ k:Nat,k≤zs.length∧i = .int .i64 k∧wr.rowIs w.heap.size 5 zs.length (fun j => .int .u8 (if j<k then Cmp.muZ (zs.getD j 0) else 0))∧Below w.heap.size w wr)
  (fun i _=>zs.length-(intOf i).toNat)
 case atStart=>exact ⟨0,Nat.zero_le _,rfl,hrow.congr (by simp),qb⟩
 case round =>
  obtain ⟨k,hk,rfl,hr,hb⟩:=hrel
  by_cases hlt:k<zs.length
  · obtain ⟨b,off,rfl,hbB,qc⟩:=hA (by omega)
    have hzk:=hz.at hlt
    have hck:wr.cell? ⟨b,off+k,none⟩=some (.int .i16 (zs.getD k 0)):=(hb.cell (p:=⟨b,off+k,none⟩) hbB).trans (qc k hlt)
    have hcr:wr.cell? ⟨w.heap.size,k,none⟩=some (.int .u8 0):=by rw [hr.cell hlt];simp
    have hfr:=hr.frozen k
    have hrl:=hr.lt
    have hn1:b≠w.heap.size:=by omega
    have hn2:w.heap.size≠b:=by omega
    have HR:=H9 hr
    have hbs:=hb.size
    clear hr qc hrow qb hmk
    generalize hzz:zs.getD k 0=z at hck hzk
    have HZ:=H9 hzz
    clear hzz
    obtain ⟨hz1,hz2⟩:=hzk
    have hi0:(0:Int)≤(k:Int):=by omega
    have hi1:(k:Int)<(zs.length:Int):=by omega
    have hna:=znd
    have hme:=zne
    go_wp2
    go_region_held3 (fun w'=>w'.cell? ⟨b,off+k,none⟩=some (.int .i16 z)) (go_keep)
     (first|(go_at_call 182;refine (zwb _ _ (by omega) (by omega)).mono ?_;rintro e w' ⟨rfl,rfl⟩)|fail)
    go_wp2
    go_roundw
    case rel =>
     refine ⟨k+1,by omega,by go_num,?_,((hb.setCell (Nat.le_refl _) _).alloc (by simpa using hbs) _).drew⟩
     rw [← HZ.out]
     exact (zbm (g:=fun j=>Cmp.muZ (zs.getD j 0)) HR.out).alloc _
    case measure=>simp [intOf];omega
  · obtain rfl:k=zs.length:=by omega
    have HR:=H9 hr
    clear hr hrow qb hmk
    go_wp2
    go_ret2
    exact ⟨_,rfl,⟨IntsAt.of_fill HR.out,fun _ b' o' e=>by cases e;exact Nat.le_refl _⟩,hb⟩
theorem zvt (A:Option Addr) (zs:List Int) (cap:Nat) (w:World) (hA:IntsAt w w.heap.size .i16 A zs) (hz:Within (-32768) 32767 zs) (h8:zs.length≤8000) :
 Calls Tryz.prog 137 #[.int .u8 2, .slice A zs.length cap] w fun e w' => ∃ A':Option Addr,e = .returned (.tuple #[.slice A' zs.length zs.length, .int .u8 0]) ∧
  IntsNew w.heap.size w' .u8 A' (zs.map Cmp.aZ)∧Below w.heap.size w w':=by
 have hmk:=run_make_row' (P:=Tryz.prog) 22 5 (.int .u8 0) 1 Tryz.underlying22 ztv rfl .i64 .i64 zs.length (by omega) (by omega) w
 obtain ⟨W1,hW1⟩:∃ W1,W1=w.alloc (.cells (madeCells #[.int .u8 0] zs.length) 5):=⟨_,rfl⟩
 have hrow:W1.rowIs w.heap.size 5 zs.length (fun _ => .int .u8 0):=by rw [hW1];exact World.rowIs_made w _ _ _
 have qb:Below w.heap.size w W1:=by rw [hW1];exact (Below.refl _ _).alloc (Nat.le_refl _) _
 rw [← hW1] at hmk
 clear hW1
 go_enter Tryz.func137,Tryz.ntmps137
 go_wp2_with (go_at_call 161;refine (ztu _).mono ?_;rintro e w' ⟨rfl,rfl⟩)
 go_loopw [25] (fun i wr => ∃ k:Nat,k≤zs.length∧i = .int .i64 k∧wr.rowIs w.heap.size 5 zs.length (fun j => .int .u8 (if j<k then Cmp.aZ (zs.getD j 0) else 0))∧Below w.heap.size w wr)
  (fun i _=>zs.length-(intOf i).toNat)
 case atStart=>exact ⟨0,Nat.zero_le _,rfl,hrow.congr (by simp),qb⟩
 case round =>
  obtain ⟨k,hk,rfl,hr,hb⟩:=hrel
  by_cases hlt:k<zs.length
  · obtain ⟨b,off,rfl,hbB,qc⟩:=hA (by omega)
    have hzk:=hz.at hlt
    have hck:wr.cell? ⟨b,off+k,none⟩=some (.int .i16 (zs.getD k 0)):=(hb.cell (p:=⟨b,off+k,none⟩) hbB).trans (qc k hlt)
    have hcr:wr.cell? ⟨w.heap.size,k,none⟩=some (.int .u8 0):=by rw [hr.cell hlt];simp
    have hfr:=hr.frozen k
    have hrl:=hr.lt
    have hn1:b≠w.heap.size:=by omega
    have hn2:w.heap.size≠b:=by omega
    have HR:=H9 hr
    have hbs:=hb.size
    clear hr qc hrow qb hmk
    generalize hzz:zs.getD k 0=z at hck hzk
    have HZ:=H9 hzz
    clear hzz
    obtain ⟨hz1,hz2⟩:=hzk
    have hi0:(0:Int)≤(k:Int):=by omega
    have hi1:(k:Int)<(zs.length:Int):=by omega
    have hna:=zpk
    have hme:=zpl
    go_wp2
    go_region_held3 (fun w'=>w'.cell? ⟨b,off+k,none⟩=some (.int .i16 z)) (go_keep)
     (first|(go_at_call 187;refine (zxl _ _ (by omega) (by omega)).mono ?_;rintro e w' ⟨rfl,rfl⟩)|fail)
    go_wp2
    go_roundw
    case rel =>
     refine ⟨k+1,by omega,by go_num,?_,((hb.setCell (Nat.le_refl _) _).alloc (by simpa using hbs) _).drew⟩
     rw [← HZ.out]
     exact (zbm (g:=fun j=>Cmp.aZ (zs.getD j 0)) HR.out).alloc _
    case measure=>simp [intOf];omega
  · obtain rfl:k=zs.length:=by omega
    have HR:=H9 hr
    clear hr hrow qb hmk
    go_wp2
    go_ret2
    exact ⟨_,rfl,⟨IntsAt.of_fill HR.out,fun _ b' o' e=>by cases e;exact Nat.le_refl _⟩,hb⟩
end
attribute [local go_sem] zad zag
section
variable (l s n:Int) (w:World)
def NoiseN (a s:Int) (m:Nat) (w:World) (e:Ending) (w':World):Prop :=
 ∃ (A':Option Addr) (c':Nat),e = .returned (.tuple #[.slice A' m c', .int .u32 (Ev.seed s m), .int .u8 0])∧IntsNew w.heap.size w' .i16 A' ((List.range m).map fun k=>Ev.nsamp a s k)∧Below w.heap.size w w'
theorem zqw (m:Nat) (h0:0≤l) (h1:l≤255) (s0:0≤s) (s1:s≤4294967295) (hm:m≤8000) :
 Calls Tryz.prog 155 #[.int .u8 l, .int .u32 s, .int .i64 m] w (NoiseN (Ev.amp (l / 6).toNat) s m w):=by
 obtain ⟨p,hp⟩:=Int.eq_ofNat_of_zero_le (a:=l / 6) (by omega)
 have hsh:(32767:Int) / 2 ^ p=Ev.amp p:=Ev.amp_pow ⟨p,by omega⟩
 have hmk:=run_make_row' (P:=Tryz.prog) 66 93 (.int .i16 0) 2 Tryz.underlying66 Ev.info_i16 rfl .i64 .i64 m (by omega) (by omega) w
 obtain ⟨W1,hW1⟩:∃ W1,W1=w.alloc (.cells (madeCells #[.int .i16 0] m) 93):=⟨_,rfl⟩
 have hrow:W1.rowIs w.heap.size 93 m (fun _ => .int .i16 0):=by rw [hW1];exact World.rowIs_made w _ _ _
 have qb:Below w.heap.size w W1:=by rw [hW1];exact (Below.refl _ _).alloc (Nat.le_refl _) _
 rw [← hW1] at hmk
 clear hW1
 rw [hp,Int.toNat_natCast]
 have ha:=Ev.amp_bd p
 obtain ⟨a0,a1⟩:=ha
 generalize Ev.amp p=a at *
 go_enter Tryz.func155,Tryz.ntmps155
 go_wp2
 go_loopw [1,24] (fun sd i wr => ∃ k:Nat,k≤m∧i = .int .i64 k∧sd = .int .u32 (Ev.seed s k)∧wr.rowIs w.heap.size 93 m (fun j => .int .i16 (if j<k then Ev.nsamp a s j else 0))∧Below w.heap.size w wr) (fun _ i _=>m-(intOf i).toNat)
 case atStart=>exact ⟨0,Nat.zero_le _,rfl,rfl,hrow.congr (by simp),qb⟩
 case round =>
  obtain ⟨k,hk,rfl,rfl,hr,hb⟩:=hrel
  clear hrow qb hmk
  by_cases hlt:k<m
  · have hcr:wr.cell? ⟨w.heap.size,k,none⟩=some (.int .i16 0):=by rw [hr.cell hlt];simp
    have hfr:=hr.frozen k
    have hsb:=Ev.seed_bd s s0 s1 k
    obtain ⟨b0,b1⟩:=hsb
    have hss:Ev.seed s (k+1)=(Ev.seed s k*1103515245+12345) % 4294967296:=rfl
    have hns:Ev.nsamp a s k=Ev.seed s (k+1) / 65536 % (2*a+1)-a:=rfl
    have hnb:=Ev.nsamp_bd a s a0 k
    have HR:=H9 hr
    have HSS:=H9 hss
    have HNS:=H9 hns
    have HNB:=H9 hnb
    have hi0:(0:Int)≤(k:Int):=by omega
    have hi1:(k:Int)<(m:Int):=by omega
    clear hr hss hns hnb
    generalize Ev.seed s k=x at *
    have hv:IntKind.i16.wrap (wrap64 ((1103515245*x+12345) % 4294967296 / 65536 % (2*a+1)-a))=Ev.nsamp a s k:=by
     have h1:=HNB.out
     rw [HNS.out,HSS.out,show x*1103515245+12345=1103515245*x+12345 by omega] at h1 ⊢
     rw [IntWalk.wrap64_in _ ⟨by omega,by omega⟩]
     simp only [IntKind.wrap,IntKind.bits,IntKind.signed]
     simp
     omega
    have HV:=H9 hv
    clear hv
    go_wp2
    go_roundw
    case rel =>
     refine ⟨k+1,by omega,by go_num,?_,?_,hb.setCell (Nat.le_refl _) _⟩
     · rw [HSS.out];congr 1;omega
     · rw [HV.out];exact zbm (g:=fun j=>Ev.nsamp a s j) HR.out
    case measure=>simp [intOf];omega
  · obtain rfl:k=m:=by omega
    have HR:=H9 hr
    clear hr
    go_wp2
    go_ret3
    refine ⟨_,_,rfl,⟨?_,fun _ b' o' e=>by cases e;exact Nat.le_refl _⟩,hb⟩
    refine IntsAt.of_row HR.out (by simp) fun i hi => ?_
    have hi':i<k:=by simpa using hi
    rw [if_pos hi']
    simp [List.getD_eq_getElem?_getD,List.getElem?_range hi']
end
section
theorem zof (n:Nat) (A:Option Addr) (bs:List Int) (cap:Nat) (w:World) (hn:n≤8000) (hn1:0<n) (hA:IntsAt w w.heap.size .u8 A bs) (hz:Within 0 255 bs) (hok:Dlt.okB bs n) (hcap:bs.length≤cap) :
 Calls Tryz.prog 94 #[.slice A bs.length cap, .int .i64 n] w fun e w' => ∃ (A':Option Addr) (c':Nat),e = .returned (.tuple #[.slice A' n c', .agg #[.int .i64 (Dlt.dAt (Dlt.headS bs) bs n).1, .int .i64 (Dlt.dAt (Dlt.headS bs) bs n).2], .int .u8 0]) ∧
  IntsNew w.heap.size w' .i16 A' (Dlt.unpackL bs n)∧Below w.heap.size w w':=by
 have HVAL:=H9 (Dlt.headS_valid bs n hok hz)
 obtain ⟨ok1,ok2,ok3,ok4⟩:=hok
 obtain ⟨b,off,rfl,hbB,qc⟩:=hA (by omega)
 have c0:=qc 0 (by omega)
 have c1:=qc 1 (by omega)
 have c2:=qc 2 (by omega)
 have c3:=qc 3 (by omega)
 have cl:=qc (bs.length-1) (by omega)
 obtain ⟨l0,l1⟩:=hz.at (i:=bs.length-1) (by omega)
 obtain ⟨a0,a1⟩:=hz.at (i:=0) (by omega)
 obtain ⟨b0,b1⟩:=hz.at (i:=1) (by omega)
 obtain ⟨g0,g1⟩:=hz.at (i:=2) (by omega)
 have hb':b≠w.heap.size:=by omega
 have hb'':b≠w.heap.size+1:=by omega
 generalize hx0:bs.getD 0 0=x0 at *
 generalize hx1:bs.getD 1 0=x1 at *
 generalize hx2:bs.getD 2 0=x2 at *
 generalize hx3:bs.getD 3 0=x3 at *
 have HX3:=H9 (show bs.getD 3 0=0 by rw [hx3,ok3])
 subst ok3
 generalize bs.getD (bs.length-1) 0=xl at *
 have HX0:=H9 hx0
 have HX1:=H9 hx1
 have HX2:=H9 hx2
 have HCELL:=H9 qc
 have HZ:=H9 hz
 generalize hM:bs.length=M at *
 have HMM:=H9 hM
 clear hA hz qc hx0 hx1 hx2 hM
 have hM4:(4:Int)≤(M:Int):=by omega
 have hM2:(2:Int)<(M:Int):=by omega
 have hM3:(3:Int)<(M:Int):=by omega
 have hM1:(1:Int)<(M:Int):=by omega
 have hM0:(0:Int)<(M:Int):=by omega
 have hl0:(0:Int)≤(M:Int)-1:=by omega
 have hl1:(M:Int)-1<(M:Int):=by omega
 have hl2:((M:Int)-1).toNat=M-1:=by omega
 have cc0:(w.alloc (.cells #[.int .i64 0, .int .i64 0] 24)).cell? ⟨b,off,none⟩=some (.int .u8 x0):=(World.cell?_alloc_lt w _ _ hbB).trans c0
 have cc1:(w.alloc (.cells #[.int .i64 0, .int .i64 0] 24)).cell? ⟨b,off+1,none⟩=some (.int .u8 x1):=(World.cell?_alloc_lt w _ _ hbB).trans c1
 have cc2:(w.alloc (.cells #[.int .i64 0, .int .i64 0] 24)).cell? ⟨b,off+2,none⟩=some (.int .u8 x2):=(World.cell?_alloc_lt w _ _ hbB).trans c2
 have cc3:(w.alloc (.cells #[.int .i64 0, .int .i64 0] 24)).cell? ⟨b,off+3,none⟩=some (.int .u8 0):=(World.cell?_alloc_lt w _ _ hbB).trans c3
 have ccl:(w.alloc (.cells #[.int .i64 0, .int .i64 0] 24)).cell? ⟨b,off+(M-1),none⟩=some (.int .u8 xl):=(World.cell?_alloc_lt w _ _ hbB).trans cl
 have cd0:((w.alloc (.cells #[.int .i64 0, .int .i64 0] 24)).alloc (.cells #[.int .i64 0, .int .i64 0] 24)).cell? ⟨b,off,none⟩=some (.int .u8 x0):=(World.cell?_alloc_lt _ _ _ (by simp;omega)).trans ((World.cell?_alloc_lt w _ _ hbB).trans c0)
 have cd1:((w.alloc (.cells #[.int .i64 0, .int .i64 0] 24)).alloc (.cells #[.int .i64 0, .int .i64 0] 24)).cell? ⟨b,off+1,none⟩=some (.int .u8 x1):=(World.cell?_alloc_lt _ _ _ (by simp;omega)).trans ((World.cell?_alloc_lt w _ _ hbB).trans c1)
 have cd2:((w.alloc (.cells #[.int .i64 0, .int .i64 0] 24)).alloc (.cells #[.int .i64 0, .int .i64 0] 24)).cell? ⟨b,off+2,none⟩=some (.int .u8 x2):=(World.cell?_alloc_lt _ _ _ (by simp;omega)).trans ((World.cell?_alloc_lt w _ _ hbB).trans c2)
 clear c0 c1 c2 c3 cl
 obtain ⟨N,hN⟩:∃ N,N=4+(n+1) / 2:=⟨_,rfl⟩
 obtain rfl:M=N:=by omega
 have HS:=H9 hN.symm
 have h5:5≤M:=by omega
 have h5':M≤4005:=by omega
 clear hN ok1
 have hpar:(n:Int) % 2=0∨((n:Int) % 2=1∧(xl % 16 != 0)=false):=by
  by_cases h:n % 2=1
  · exact .inr ⟨by omega,by have:=ok4 h;simp [this]⟩
  · exact .inl (by omega)
 clear ok4
 go_enter Tryz.func94,Tryz.ntmps94
 go_wp2_with fail
 refine (zba n _ hn).mono ?_
 rintro e w' ⟨rfl,rfl⟩
 rw [HS.out]
 go_wp2_with fail
 refine (zba n _ hn).mono ?_
 rintro e w' ⟨rfl,rfl⟩
 rw [HS.out]
 have HI2:=H9 zhn
 have hz89:=zlx
 rcases hpar with hp|⟨hp,hq⟩
 all_goals
  go_wp2_with fail
  go_region
  go_wp2_with fail
  have hhw:=zin x0 x1 a0 a1 b0 b1
  generalize wrap64 (IntKind.i16.wrap (bits BinOp.or IntKind.u16 (x0*256) x1))=V0 at *
  refine (zfc _).mono ?_
  rintro e w3 ⟨rfl,hb3⟩
  have b0:Blk ((w.alloc (.cells #[.int .i64 0, .int .i64 0] 24)).alloc (.cells #[.int .i64 V0, .int .i64 x2] 24)).drew w.heap.size 24 #[.int .i64 0, .int .i64 0]:=((Blk.new w _ _).alloc _).drew
  have b1:Blk ((w.alloc (.cells #[.int .i64 0, .int .i64 0] 24)).alloc (.cells #[.int .i64 V0, .int .i64 x2] 24)).drew (w.heap.size+1) 24 #[.int .i64 V0, .int .i64 x2]:=by
   have h:=Blk.new (w.alloc (.cells #[.int .i64 0, .int .i64 0] 24)) 24 #[.int .i64 V0, .int .i64 x2]
   rw [show (w.alloc (.cells #[.int .i64 0, .int .i64 0] 24)).heap.size=w.heap.size+1 by simp] at h
   exact h.drew
  have hbw:Below w.heap.size w ((w.alloc (.cells #[.int .i64 0, .int .i64 0] 24)).alloc (.cells #[.int .i64 V0, .int .i64 x2] 24)).drew:=(((Below.refl _ w).alloc (Nat.le_refl _) _).alloc (by simp) _).drew
  have hs3:w.heap.size+1+1≤w3.heap.size:=by have:=hb3.size;simpa using this
  have HB0:=H9 ((b0.later hb3).later (zbd w3))
  have HB1:=H9 ((b1.later hb3).later (zbd w3))
  have HBW:=H9 ((hbw.trans (hb3.mono hbw.size)).trans ((zbd w3).mono (by omega)))
  have HST:=H9 (zeb w3)
  have HT:=H9 (zda w3)
  have HSZ:=H9 (zff w3)
  have hmk:=run_make_row' (P:=Tryz.prog) 66 93 (.int .i16 0) 2 Tryz.underlying66 zho rfl .i64 .i64 n (by omega) (by omega) (laidW w3)
  clear b0 b1 hbw hb3 cc0 cc1 cc2 cc3 ccl cd0 cd1 cd2
  go_wp2_with (first
   | (refine wpList_store_mid rfl 198 (.tmp 9) (.tmp 82) (by rfl) w3.heap.size 0 Dlt.szA (by rfl) (by rfl) HT.out HI2.out zju ?_;change wpList _ _ _ _ _ (laidW w3);generalize laidW w3=W4 at *; generalize w3.heap.size=gt at *; clear hz89 HT HI2)
   | fail)
  have HH:Hid (Dlt.headS bs=(V0,x2)):=H9 (by unfold Dlt.headS;rw [HX0.out,HX1.out,HX2.out,hhw])
  have HSV0:Hid (Dlt.valid V0 x2=true):=H9 (by have h:=HVAL.out;rw [HH.out] at h;exact h)
  generalize hr:W4.heap.size=r at *
  have hs4:w.heap.size+1+1≤r:=by have:=HSZ.out;omega
  have HSZ':=H9 HSZ.out
  clear hmk hhw
  go_loopw [86] (fun q wr => ∃ k:Nat,k≤n∧q = .int .i64 k∧Blk wr w.heap.size 24 #[.int .i64 0, .int .i64 0] ∧
   Blk wr (w.heap.size+1) 24 #[.int .i64 (Dlt.dAt (V0,x2) bs k).1, .int .i64 (Dlt.dAt (V0,x2) bs k).2] ∧
   wr.rowIs r 93 n (fun j => .int .i16 (if j<k then (Dlt.dAt (V0,x2) bs (j+1)).1 else 0))∧StepsAt wr gt∧Below w.heap.size w wr)
   (fun q _=>n-(intOf q).toNat)
  case atStart =>
   refine ⟨0,Nat.zero_le _,rfl,HB0.out.alloc _,HB1.out.alloc _,?_,?_,?_⟩
   · have h:=World.rowIs_made W4 (.int .i16 0) n 93
     rw [hr] at h
     exact h.congr fun j _=>by simp
   · exact HST.out.below ((Below.refl _ _).alloc (Nat.le_refl _) _)
   · exact HBW.out.alloc (by omega) _
  case round =>
   obtain ⟨k,hk,rfl,B0,B1,R,hst,hb⟩:=hrel
   clear HB0 HB1 HST HBW
   have HSV:=H9 (Dlt.dAt_valid (V0,x2) HSV0.out bs k)
   have HNX:Hid (Dlt.dAt (V0,x2) bs (k+1)=(Dlt.nextV (Dlt.dAt (V0,x2) bs k).1 (Dlt.dAt (V0,x2) bs k).2 (Dlt.nib bs k),Dlt.nextI (Dlt.dAt (V0,x2) bs k).2 (Dlt.nib bs k))):=H9 rfl
   by_cases hlt:k<n
   · have hM6:4+k / 2<M:=by have:=HS.out;omega
     have hck:wr.cell? ⟨b,off+4+k / 2,none⟩=some (.int .u8 (bs.getD (4+k / 2) 0)):=by
      rw [Nat.add_assoc]
      exact (hb.cell (p:=⟨b,off+(4+k / 2),none⟩) hbB).trans (HCELL.out _ hM6)
     have hzk:=HZ.out.at (i:=4+k / 2) (by rw [HMM.out];exact hM6)
     have hnib:Dlt.nib bs k=if k % 2=0 then bs.getD (4+k / 2) 0 / 16 else bs.getD (4+k / 2) 0 % 16:=rfl
     generalize bs.getD (4+k / 2) 0=x at hck hzk hnib
     obtain ⟨z0,z1⟩:=hzk
     generalize hc:Dlt.nib bs k=c at *
     generalize hV:(Dlt.dAt (V0,x2) bs k).1=V at *
     generalize hI:(Dlt.dAt (V0,x2) bs k).2=I at *
     have HC:=H9 hnib
     have c0:=B1.at 0 _ rfl
     have c1:=B1.at 1 _ rfl
     have f0:=B1.frozen 0
     have f1:=B1.frozen 1
     have HB0:=H9 B0
     have HB1:=H9 B1
     have HR:=H9 R
     have HST:=H9 hst
     have HB:=H9 hb
     have hn0:(0:Int)≤(k:Int) / 2:=by omega
     have hn2:(k:Int) / 2<((M-4:Nat):Int):=by omega
     have hk0:(0:Int)≤(k:Int):=by omega
     have hk1:(k:Int)<(n:Int):=by omega
     clear B0 B1 R hst hb hV hI hc hnib
     by_cases hpar:k % 2=0
     · have hpar':(k:Int) % 2=0:=by omega
       have hce:x / 16 % 16=c:=by have:=HC.out;rw [if_pos hpar] at this;omega
       have HCE:=H9 hce
       have z2:0≤c:=by omega
       have z3:c≤15:=by omega
       clear hpar hce
       go_wp2_with fail
       rw [HCE.out]
       refine (zdz gt V I c _ HST.out HSV.out z2 z3).mono ?_
       rintro e w6 ⟨rfl,hb6⟩
       have HB06:=H9 (HB0.out.later hb6)
       have HB16:=H9 (HB1.out.later hb6)
       have HR6:=H9 (zbh HR.out hb6 HR.out.lt)
       have HST6:=H9 (HST.out.below hb6)
       have HBW6:=H9 (HB.out.trans (hb6.mono HB.out.size))
       clear hb6 HB0 HB1 HR HST HB c0 c1 f0 f1 hck
       have c0:=HB16.out.at 0 _ rfl
       have c1:=HB16.out.at 1 _ rfl
       have f0:=HB16.out.frozen 0
       have f1:=HB16.out.frozen 1
       have hrc:=HR6.out.cell (i:=k) (by omega)
       have hrf:=HR6.out.frozen k
       have hd1:w.heap.size+1≠r:=by omega
       have hd2:r≠w.heap.size+1:=by omega
       obtain ⟨nv0,nv1⟩:=Dlt.nextV_bd V I c
       go_wp2
       go_roundw
       case rel =>
        have h:=zeo hs3 HSZ'.out HB06.out HB16.out HR6.out HST6.out HBW6.out HNX.out
        exact ⟨k+1,by omega,by go_num,h⟩
       case measure=>simp [intOf];omega
     · have hpar':(k:Int) % 2=1:=by omega
       have hce:x % 16=c:=by have:=HC.out;rw [if_neg hpar] at this;omega
       have HCE:=H9 hce
       have z2:0≤c:=by omega
       have z3:c≤15:=by omega
       clear hpar hce
       go_wp2_with fail
       rw [HCE.out]
       refine (zdz gt V I c _ HST.out HSV.out z2 z3).mono ?_
       rintro e w6 ⟨rfl,hb6⟩
       have HB06:=H9 (HB0.out.later hb6)
       have HB16:=H9 (HB1.out.later hb6)
       have HR6:=H9 (zbh HR.out hb6 HR.out.lt)
       have HST6:=H9 (HST.out.below hb6)
       have HBW6:=H9 (HB.out.trans (hb6.mono HB.out.size))
       clear hb6 HB0 HB1 HR HST HB c0 c1 f0 f1 hck
       have c0:=HB16.out.at 0 _ rfl
       have c1:=HB16.out.at 1 _ rfl
       have f0:=HB16.out.frozen 0
       have f1:=HB16.out.frozen 1
       have hrc:=HR6.out.cell (i:=k) (by omega)
       have hrf:=HR6.out.frozen k
       have hd1:w.heap.size+1≠r:=by omega
       have hd2:r≠w.heap.size+1:=by omega
       obtain ⟨nv0,nv1⟩:=Dlt.nextV_bd V I c
       go_wp2
       go_roundw
       case rel =>
        have h:=zeo hs3 HSZ'.out HB06.out HB16.out HR6.out HST6.out HBW6.out HNX.out
        exact ⟨k+1,by omega,by go_num,h⟩
       case measure=>simp [intOf];omega
   · obtain rfl:k=n:=by omega
     have HB0:=H9 B0
     have HB1:=H9 B1
     have HR:=H9 R
     have HB:=H9 hb
     have HHH:=H9 (show Dlt.headS bs=(V0,x2) from HH.out)
     generalize hV:(Dlt.dAt (V0,x2) bs k).1=V at *
     generalize hI:(Dlt.dAt (V0,x2) bs k).2=I at *
     have HV:=H9 hV
     have HI:=H9 hI
     have c0:=B1.at 0 _ rfl
     have c1:=B1.at 1 _ rfl
     have d0:=B0.at 0 _ rfl
     have d1:=B0.at 1 _ rfl
     have f0:=B0.frozen 0
     have f1:=B0.frozen 1
     clear B0 B1 R hst hb hV hI
     go_wp2
     go_region
     go_wp2
     refine bodyPost_ret (v := .tuple #[.slice (some ⟨r,0,none⟩) k k, .agg #[.int .i64 V, .int .i64 I], .int .u8 0]) (by simp [results,Tryz.results94,go_sem,d0,d1]) rfl ?_
     refine ⟨some ⟨r,0,none⟩,k,by rw [HHH.out,HV.out,HI.out],?_,?_⟩
     · refine ⟨?_,fun _ b' o' e=>by cases e;omega⟩
       refine IntsAt.of_row (((HR.out.setOther (by simp;omega) _).setOther (by simp;omega) _).drew) (by simp [Dlt.unpackL]) fun j hj => ?_
       have hj':j<k:=by simpa [Dlt.unpackL] using hj
       rw [if_pos hj',Dlt.unpackL,HHH.out]
       simp [List.getD_eq_getElem?_getD,List.getElem?_range hj']
     · exact ((HB.out.setCell (by simp) _).setCell (by simp) _).drew
end
end Go.Proofs.YtahbecinkciahaaGreat
namespace Go.Proofs.YtahbecinkciahaaGreat
attribute [local go_sem] zad zag
open Go.RowKit
theorem zhx (n:Int) (A:Option Addr) (m cap:Nat) (w:World) (hn:n<0∨8000<n) :
 Calls Tryz.prog 89 #[.slice A m cap, .int .i64 n] w fun e w'=>e = .returned (.tuple #[.slice none 0 0, .agg #[.int .i64 0, .int .i64 0], .int .u8 3])∧Below w.heap.size w w':=by
 rcases hn with hn|hn
 all_goals
  go_enter Tryz.func89,Tryz.ntmps89
  go_wp2_with fail
  refine bodyPost_ret (v := .tuple #[.slice none 0 0, .agg #[.int .i64 0, .int .i64 0], .int .u8 3]) (by simp [results,Tryz.results89,go_sem]) rfl ⟨rfl,?_⟩
  repeat (first|exact Below.refl _ _|refine Below.setCell ?_ (by simp) _|refine Below.alloc ?_ (by simp;try omega) _)
theorem zhy (n:Nat) (A:Option Addr) (m cap:Nat) (w:World) (hn:n≤8000) (hm:m<4+(n+1) / 2) :
 Calls Tryz.prog 89 #[.slice A m cap, .int .i64 n] w fun e w'=>e = .returned (.tuple #[.slice none 0 0, .agg #[.int .i64 0, .int .i64 0], .int .u8 6])∧Below w.heap.size w w':=by
 go_enter Tryz.func89,Tryz.ntmps89
 go_wp2_with fail
 refine bodyPost_ret (v := .tuple #[.slice none 0 0, .agg #[.int .i64 0, .int .i64 0], .int .u8 6]) (by simp [results,Tryz.results89,go_sem]) rfl ⟨rfl,?_⟩
 repeat (first|exact Below.refl _ _|refine Below.setCell ?_ (by simp) _|refine Below.alloc ?_ (by simp;try omega) _)
theorem zgj (n:Nat) (A:Option Addr) (bs:List Int) (cap:Nat) (w:World) (hn:n≤8000) (hA:IntsAt w w.heap.size .u8 A bs) (hz:Within 0 255 bs) (hm:4+(n+1) / 2≤bs.length) (hno:¬Dlt.okB bs n) (hmax:bs.length≤maxLen) :
 Calls Tryz.prog 89 #[.slice A bs.length cap, .int .i64 n] w fun e w'=>e = .returned (.tuple #[.slice none 0 0, .agg #[.int .i64 0, .int .i64 0], .int .u8 5])∧Below w.heap.size w w':=by
 obtain ⟨b,off,rfl,hbB,qc⟩:=hA (by omega)
 have c2:=qc 2 (by omega)
 have c3:=qc 3 (by omega)
 have cl:=qc (bs.length-1) (by omega)
 obtain ⟨l0,l1⟩:=hz.at (i:=bs.length-1) (by omega)
 obtain ⟨g0,g1⟩:=hz.at (i:=2) (by omega)
 obtain ⟨t0,t1⟩:=hz.at (i:=3) (by omega)
 have hb':b≠w.heap.size:=by omega
 unfold Dlt.okB at hno
 generalize bs.getD 2 0=x2 at *
 generalize bs.getD 3 0=x3 at *
 generalize bs.getD (bs.length-1) 0=xl at *
 clear hA hz qc
 generalize hM:bs.length=M at *
 unfold maxLen at hmax
 have hM4:(4:Int)≤(M:Int):=by omega
 have hM2:(2:Int)<(M:Int):=by omega
 have hM3:(3:Int)<(M:Int):=by omega
 have hl0:(0:Int)≤(M:Int)-1:=by omega
 have hl1:(M:Int)-1<(M:Int):=by omega
 have hl2:((M:Int)-1).toNat=M-1:=by omega
 have cc2:(w.alloc (.cells #[.int .i64 0, .int .i64 0] 24)).cell? ⟨b,off+2,none⟩=some (.int .u8 x2):=(World.cell?_alloc_lt w _ _ hbB).trans c2
 have cc3:(w.alloc (.cells #[.int .i64 0, .int .i64 0] 24)).cell? ⟨b,off+3,none⟩=some (.int .u8 x3):=(World.cell?_alloc_lt w _ _ hbB).trans c3
 have ccl:(w.alloc (.cells #[.int .i64 0, .int .i64 0] 24)).cell? ⟨b,off+(M-1),none⟩=some (.int .u8 xl):=(World.cell?_alloc_lt w _ _ hbB).trans cl
 clear c2 c3 cl
 generalize hs:4+(n+1) / 2=N at *
 have HS:=H9 hs
 have hsI:(4:Int)+((n:Int)+1) / 2=(N:Int):=by omega
 have h:N<M∨(M=N∧88<x2)∨(M=N∧x2≤88∧x3≠0)∨(M=N∧x2≤88∧x3=0∧(n:Int) % 2=1∧xl % 16≠0):=by omega
 clear hno hs
 rcases h with h|⟨rfl,h⟩|⟨rfl,h2,h3⟩|⟨rfl,h2,rfl,h4,h5⟩
 all_goals try have h5b:(xl % 16 != 0)=true:=bne_iff_ne.2 h5
 all_goals
  go_enter Tryz.func89,Tryz.ntmps89
  go_wp2_with fail
  refine bodyPost_ret (v := .tuple #[.slice none 0 0, .agg #[.int .i64 0, .int .i64 0], .int .u8 5]) (by simp [results,Tryz.results89,go_sem]) rfl ⟨rfl,?_⟩
  repeat (first|exact Below.refl _ _|refine Below.setCell ?_ (by simp) _|refine Below.alloc ?_ (by simp;try omega) _)
theorem zks (A:Option Addr) (bs:List Int) (cap:Nat) (w:World) (hA:IntsAt w w.heap.size .u8 A bs) (hz:Within 0 255 bs) (hok:Dlt.okB bs 0) (hcap:bs.length≤cap) :
 Calls Tryz.prog 94 #[.slice A bs.length cap, .int .i64 0] w fun e w' => ∃ (A':Option Addr) (c':Nat),e = .returned (.tuple #[.slice A' 0 c', .agg #[.int .i64 (Dlt.dAt (Dlt.headS bs) bs 0).1, .int .i64 (Dlt.dAt (Dlt.headS bs) bs 0).2], .int .u8 0]) ∧
  IntsAt w' w'.heap.size .i16 A' (Dlt.unpackL bs 0)∧Below w.heap.size w w':=by
 have HVAL:=H9 (Dlt.headS_valid bs 0 hok hz)
 obtain ⟨ok1,ok2,ok3,ok4⟩:=hok
 obtain ⟨b,off,rfl,hbB,qc⟩:=hA (by omega)
 have c0:=qc 0 (by omega)
 have c1:=qc 1 (by omega)
 have c2:=qc 2 (by omega)
 have c3:=qc 3 (by omega)
 obtain ⟨a0,a1⟩:=hz.at (i:=0) (by omega)
 obtain ⟨b0,b1⟩:=hz.at (i:=1) (by omega)
 obtain ⟨g0,g1⟩:=hz.at (i:=2) (by omega)
 have hb':b≠w.heap.size:=by omega
 have hb'':b≠w.heap.size+1:=by omega
 generalize hx0:bs.getD 0 0=x0 at *
 generalize hx1:bs.getD 1 0=x1 at *
 generalize hx2:bs.getD 2 0=x2 at *
 generalize hx3:bs.getD 3 0=x3 at *
 have HX3:=H9 (show bs.getD 3 0=0 by rw [hx3,ok3])
 subst ok3
 have HX0:=H9 hx0
 have HX1:=H9 hx1
 have HX2:=H9 hx2
 have HCELL:=H9 qc
 have HZ:=H9 hz
 generalize hM:bs.length=M at *
 have HMM:=H9 hM
 clear hA hz qc hx0 hx1 hx2 hM
 obtain rfl:M=4:=by omega
 clear ok1 ok4
 have cc0:(w.alloc (.cells #[.int .i64 0, .int .i64 0] 24)).cell? ⟨b,off,none⟩=some (.int .u8 x0):=(World.cell?_alloc_lt w _ _ hbB).trans c0
 have cc1:(w.alloc (.cells #[.int .i64 0, .int .i64 0] 24)).cell? ⟨b,off+1,none⟩=some (.int .u8 x1):=(World.cell?_alloc_lt w _ _ hbB).trans c1
 have cc2:(w.alloc (.cells #[.int .i64 0, .int .i64 0] 24)).cell? ⟨b,off+2,none⟩=some (.int .u8 x2):=(World.cell?_alloc_lt w _ _ hbB).trans c2
 have cc3:(w.alloc (.cells #[.int .i64 0, .int .i64 0] 24)).cell? ⟨b,off+3,none⟩=some (.int .u8 0):=(World.cell?_alloc_lt w _ _ hbB).trans c3
 have cd0:((w.alloc (.cells #[.int .i64 0, .int .i64 0] 24)).alloc (.cells #[.int .i64 0, .int .i64 0] 24)).cell? ⟨b,off,none⟩=some (.int .u8 x0):=(World.cell?_alloc_lt _ _ _ (by simp;omega)).trans ((World.cell?_alloc_lt w _ _ hbB).trans c0)
 have cd1:((w.alloc (.cells #[.int .i64 0, .int .i64 0] 24)).alloc (.cells #[.int .i64 0, .int .i64 0] 24)).cell? ⟨b,off+1,none⟩=some (.int .u8 x1):=(World.cell?_alloc_lt _ _ _ (by simp;omega)).trans ((World.cell?_alloc_lt w _ _ hbB).trans c1)
 have cd2:((w.alloc (.cells #[.int .i64 0, .int .i64 0] 24)).alloc (.cells #[.int .i64 0, .int .i64 0] 24)).cell? ⟨b,off+2,none⟩=some (.int .u8 x2):=(World.cell?_alloc_lt _ _ _ (by simp;omega)).trans ((World.cell?_alloc_lt w _ _ hbB).trans c2)
 clear c0 c1 c2 c3
 go_enter Tryz.func94,Tryz.ntmps94
 go_wp2_with fail
 refine (zba 0 _ (by omega)).mono ?_
 rintro e w' ⟨rfl,rfl⟩
 go_wp2_with fail
 refine (zba 0 _ (by omega)).mono ?_
 rintro e w' ⟨rfl,rfl⟩
 have HI2:=H9 zhn
 have hz89:=zlx
 all_goals
  go_wp2_with fail
  go_region
  go_wp2_with fail
  have hhw:=zin x0 x1 a0 a1 b0 b1
  generalize wrap64 (IntKind.i16.wrap (bits BinOp.or IntKind.u16 (x0*256) x1))=V0 at *
  refine (zfc _).mono ?_
  rintro e w3 ⟨rfl,hb3⟩
  have b0:Blk ((w.alloc (.cells #[.int .i64 0, .int .i64 0] 24)).alloc (.cells #[.int .i64 V0, .int .i64 x2] 24)).drew w.heap.size 24 #[.int .i64 0, .int .i64 0]:=((Blk.new w _ _).alloc _).drew
  have b1:Blk ((w.alloc (.cells #[.int .i64 0, .int .i64 0] 24)).alloc (.cells #[.int .i64 V0, .int .i64 x2] 24)).drew (w.heap.size+1) 24 #[.int .i64 V0, .int .i64 x2]:=by
   have h:=Blk.new (w.alloc (.cells #[.int .i64 0, .int .i64 0] 24)) 24 #[.int .i64 V0, .int .i64 x2]
   rw [show (w.alloc (.cells #[.int .i64 0, .int .i64 0] 24)).heap.size=w.heap.size+1 by simp] at h
   exact h.drew
  have hbw:Below w.heap.size w ((w.alloc (.cells #[.int .i64 0, .int .i64 0] 24)).alloc (.cells #[.int .i64 V0, .int .i64 x2] 24)).drew:=(((Below.refl _ w).alloc (Nat.le_refl _) _).alloc (by simp) _).drew
  have hs3:w.heap.size+1+1≤w3.heap.size:=by have:=hb3.size;simpa using this
  have HB0:=H9 ((b0.later hb3).later (zbd w3))
  have HB1:=H9 ((b1.later hb3).later (zbd w3))
  have HBW:=H9 ((hbw.trans (hb3.mono hbw.size)).trans ((zbd w3).mono (by omega)))
  have HST:=H9 (zeb w3)
  have HT:=H9 (zda w3)
  have HSZ:=H9 (zff w3)
  have hmk:=run_make_row' (P:=Tryz.prog) 66 93 (.int .i16 0) 2 Tryz.underlying66 zho rfl .i64 .i64 0 (by omega) (by omega) (laidW w3)
  change (Instr.makeSlice 66 (.int .i64 0) (.int .i64 0)).run Tryz.prog _=_ at hmk
  clear b0 b1 hbw hb3 cc0 cc1 cc2 cc3 cd0 cd1 cd2
  go_wp2_with (first
   | (refine wpList_store_mid rfl 198 (.tmp 9) (.tmp 82) (by rfl) w3.heap.size 0 Dlt.szA (by rfl) (by rfl) HT.out HI2.out zju ?_;change wpList _ _ _ _ _ (laidW w3);generalize laidW w3=W4 at *; generalize w3.heap.size=gt at *; clear hz89 HT HI2)
   | fail)
  have HH:Hid (Dlt.headS bs=(V0,x2)):=H9 (by unfold Dlt.headS;rw [HX0.out,HX1.out,HX2.out,hhw])
  have HSV0:Hid (Dlt.valid V0 x2=true):=H9 (by have h:=HVAL.out;rw [HH.out] at h;exact h)
  generalize hr:W4.heap.size=r at *
  have hs4:w.heap.size+1+1≤r:=by have:=HSZ.out;omega
  have HSZ':=H9 HSZ.out
  clear hmk hhw
  go_loopw [86] (fun q wr=>q = .int .i64 0∧Blk wr w.heap.size 24 #[.int .i64 0, .int .i64 0] ∧
   Blk wr (w.heap.size+1) 24 #[.int .i64 V0, .int .i64 x2]∧Below w.heap.size w wr)
   (fun q _=>0)
  case atStart=>exact ⟨rfl,HB0.out.alloc _,HB1.out.alloc _,HBW.out.alloc (by omega) _⟩
  case round =>
   obtain ⟨rfl,B0,B1,hb⟩:=hrel
   clear HB0 HB1 HST HBW
   have HHH:=H9 (show Dlt.headS bs=(V0,x2) from HH.out)
   have HB:=H9 hb
   have c0:=B1.at 0 _ rfl
   have c1:=B1.at 1 _ rfl
   have d0:=B0.at 0 _ rfl
   have d1:=B0.at 1 _ rfl
   have f0:=B0.frozen 0
   have f1:=B0.frozen 1
   clear B0 B1 hb
   go_wp2
   go_region
   go_wp2
   refine bodyPost_ret (v := .tuple #[.slice (some ⟨r,0,none⟩) 0 0, .agg #[.int .i64 V0, .int .i64 x2], .int .u8 0]) (by simp [results,Tryz.results94,go_sem,d0,d1]) rfl ?_
   refine ⟨some ⟨r,0,none⟩,0,by rw [HHH.out];rfl,?_,?_⟩
   · exact IntsAt.nil
   · exact ((HB.out.setCell (by simp) _).setCell (by simp) _).drew
def Dlt.rowK (s:Int×Int) (zs:List Int) (k:Nat):List Value:=(List.range (4+(k+1) / 2)).map fun j=>Value.int .u8 (Dlt.packAt s zs k j)
end Go.Proofs.YtahbecinkciahaaGreat
namespace Go.Proofs.YtahbecinkciahaaGreat
open Go.RowKit
def Dlt.encR (v i x:Int):Int×Int×Int×Int:=if Dlt.valid v i=true then (Dlt.code v i x,Dlt.nextV v i (Dlt.code v i x),Dlt.nextI i (Dlt.code v i x),0) else (0,0,0,2)
def Dlt.decR (v i c:Int):Int×Int×Int×Int:=if Dlt.valid v i=true then (if c≤15 then (Dlt.nextV v i c,Dlt.nextV v i c,Dlt.nextI i c,0) else (0,0,0,3)) else (0,0,0,2)
def Dlt.packR (v i:Int) (zs:List Int):List Int×Int×Int×Int :=
 if Dlt.valid v i=true then (if zs.length≤8000 then (Dlt.packB (v,i) zs,(Dlt.stAt (v,i) zs zs.length).1,(Dlt.stAt (v,i) zs zs.length).2,0) else ([],0,0,4)) else ([],0,0,2)
def Dlt.unpR (bs:List Int) (n:Int):List Int×Int×Int×Int :=
 if n<0∨8000<n then ([],0,0,3) else if bs.length<4+(n.toNat+1) / 2 then ([],0,0,6) else
  if Dlt.okB bs n.toNat then (Dlt.unpackL bs n.toNat,(Dlt.dAt (Dlt.headS bs) bs n.toNat).1,(Dlt.dAt (Dlt.headS bs) bs n.toNat).2,0) else ([],0,0,5)
section
variable (v i x:Int) (w:World)
variable (A:Option Addr) (zs:List Int) (cap:Nat)
variable (bs:List Int) (n:Int)
theorem Dlt.unpackL_len (bs:List Int) (n:Nat):(Dlt.unpackL bs n).length=n:=by simp [Dlt.unpackL]
end
end Go.Proofs.YtahbecinkciahaaGreat
namespace Go.Proofs.YtahbecinkciahaaGreat
attribute [local go_sem ↓] zae zaf
attribute [local go_sem] zad zag
open Go.RowKit
def DecR (zs:List Int) (er:Int) (w:World) (e:Ending) (w':World):Prop:=∃ (A':Option Addr) (c':Nat),e = .returned (.tuple #[.slice A' zs.length c', .int .u8 er])∧IntsNew w.heap.size w' .i16 A' zs∧Below w.heap.size w w'
theorem zkt (A:Option Addr) (bs:List Int) (cap:Nat) (n:Int) (w:World) (hA:IntsAt w w.heap.size .u8 A bs) (hz:Within 0 255 bs) (hcap:bs.length≤cap) (hmax:bs.length≤maxLen) :
 Calls Tryz.prog 94 #[.slice A bs.length cap, .int .i64 n] w fun e w' => ∃ (A':Option Addr) (c':Nat),e = .returned (.tuple #[.slice A' (Dlt.unpR bs n).1.length c', .agg #[.int .i64 (Dlt.unpR bs n).2.1, .int .i64 (Dlt.unpR bs n).2.2.1], .int .u8 (Dlt.unpR bs n).2.2.2]) ∧
  IntsNew w.heap.size w' .i16 A' (Dlt.unpR bs n).1∧Below w.heap.size w w':=by
 unfold Dlt.unpR
 by_cases hr:n<0∨8000<n
 · rw [if_pos hr]
   refine (zio n A bs.length cap w hr).mono ?_
   rintro e w' ⟨rfl,hb⟩
   exact ⟨none,0,rfl,IntsNew.nil,hb⟩
 · rw [if_neg hr]
   obtain ⟨m,rfl⟩:=Int.eq_ofNat_of_zero_le (a:=n) (by omega)
   rw [Int.toNat_natCast]
   by_cases hs:bs.length<4+(m+1) / 2
   · rw [if_pos hs]
     refine (zip m A bs.length cap w (by omega) hs).mono ?_
     rintro e w' ⟨rfl,hb⟩
     exact ⟨none,0,rfl,IntsNew.nil,hb⟩
   · rw [if_neg hs]
     by_cases hk:Dlt.okB bs m
     · rw [if_pos hk]
       rcases Nat.eq_zero_or_pos m with h0|h0
       · subst h0
         refine (zks A bs cap w hA hz hk hcap).mono ?_
         rintro e w' ⟨A',c',rfl,h,hb⟩
         exact ⟨A',c',rfl,⟨h,fun h0=>absurd h0 (by simp [Dlt.unpackL])⟩,hb⟩
       · refine (zof m A bs cap w (by omega) h0 hA hz hk hcap).mono ?_
         rintro e w' ⟨A',c',rfl,h⟩
         exact ⟨A',c',by rw [Dlt.unpackL_len],h⟩
     · rw [if_neg hk]
       refine (zhp m A bs cap w (by omega) hA hz (by omega) hk hmax).mono ?_
       rintro e w' ⟨rfl,hb⟩
       exact ⟨none,0,rfl,IntsNew.nil,hb⟩
theorem zxa (n:Int) (A:Option Addr) (bs:List Int) (c b:Nat) (w:World) (hA:IntsAt w w.heap.size .u8 A bs) (hz:Within 0 255 bs) (h8:bs.length≤8000) (hb:Blk w b 5 #[.int .u8 1]):Calls Tryz.prog 138 #[.slice A bs.length c, .int .i64 n, .pointer (some ⟨b,0,none⟩)] w (DecR (bs.map Cmp.fromMuZ) 0 w):=by
 have k1:=H9 fun (W:World) hW=>zoe A bs c W hW hz h8
 have IA:=H9 hA
 have BB:=H9 hb
 have hlt:=hb.lt
 clear hA hb hz
 go_enter Tryz.func138,Tryz.ntmps138
 have d0:=BB.out.at 0 _ rfl
 go_wp2_with fail
 refine (k1.out _ IA.out).mono ?_
 rintro e w1 ⟨A1,rfl,hI,hb1⟩
 clear d0
 go_wp2_with fail
 exact bodyPost_ret (v := .tuple #[.slice A1 bs.length bs.length, .int .u8 0]) (by simp [results,Tryz.results138,go_sem]) rfl ⟨A1,bs.length,by rw [List.length_map],hI,hb1⟩
theorem zxm (n:Int) (A:Option Addr) (bs:List Int) (c b:Nat) (w:World) (hA:IntsAt w w.heap.size .u8 A bs) (hz:Within 0 255 bs) (h8:bs.length≤8000) (hb:Blk w b 5 #[.int .u8 2]):Calls Tryz.prog 138 #[.slice A bs.length c, .int .i64 n, .pointer (some ⟨b,0,none⟩)] w (DecR (bs.map Cmp.fromAZ) 0 w):=by
 have k1:=H9 fun (W:World) hW=>zqv A bs c W hW hz h8
 have IA:=H9 hA
 have BB:=H9 hb
 have hlt:=hb.lt
 clear hA hb hz
 go_enter Tryz.func138,Tryz.ntmps138
 have d0:=BB.out.at 0 _ rfl
 go_wp2_with fail
 refine (k1.out _ IA.out).mono ?_
 rintro e w1 ⟨A1,rfl,hI,hb1⟩
 clear d0
 go_wp2_with fail
 exact bodyPost_ret (v := .tuple #[.slice A1 bs.length bs.length, .int .u8 0]) (by simp [results,Tryz.results138,go_sem]) rfl ⟨A1,bs.length,by rw [List.length_map],hI,hb1⟩
theorem zvu (n:Int) (A:Option Addr) (bs:List Int) (c:Nat) (w:World) (hA:IntsAt w w.heap.size .u8 A bs) (hz:Within 0 255 bs) (hc:bs.length≤c) (hm:bs.length≤maxLen):Calls Tryz.prog 93 #[.slice A bs.length c, .int .i64 n] w (DecR (Dlt.unpR bs n).1 (Dlt.unpR bs n).2.2.2 w):=by
 have k1:=H9 fun (W:World) hW=>zkt A bs c n W hW hz hc hm
 generalize Dlt.unpR bs n=R at *
 obtain ⟨R1,R2,R3,R4⟩:=R
 have IA:=H9 hA
 clear hA hz
 go_enter Tryz.func93,Tryz.ntmps93
 go_wp2_with fail
 refine (k1.out _ IA.out).mono ?_
 rintro e w1 ⟨A1,c1,rfl,hI,hb1⟩
 have HI:=H9 hI
 have U:=H9 hb1
 clear hI hb1
 go_wp2_with fail
 go_ret2
 exact ⟨A1,c1,rfl,HI.out.push _,Bel.push U.out _⟩
def DecodeR (d:List Int×Int) (w:World) (e:Ending) (w':World):Prop:=∃ (A':Option Addr) (c':Nat),e = .returned (.tuple #[.slice A' d.1.length c', .int .u32 d.2])∧IntsNew w.heap.size w' .i16 A' d.1∧Below w.heap.size w w'
theorem zxb (bs:List Int):(Dlt.unpR bs 160).1=Sb.decS 96 bs∧((Dlt.unpR bs 160).2.2.2≠0→(Dlt.unpR bs 160).1=[]):=by
 have e:Sb.decS 96 bs=if Sb.Dlt.fits bs 160 then Dlt.unpackL bs 160 else []:=by unfold Sb.decS;rw [if_neg (by decide),if_neg (by decide),if_pos rfl]
 rw [e]
 unfold Dlt.unpR
 rw [if_neg (by decide),show (160:Int).toNat=160 from rfl]
 by_cases h1:bs.length<4+(160+1) / 2
 · rw [if_pos h1,if_neg (fun h=>by have:=h.1;omega)]
   exact ⟨rfl,fun _=>rfl⟩
 rw [if_neg h1]
 by_cases h2:Dlt.okB bs 160
 · rw [if_pos h2,if_pos (show Sb.Dlt.fits bs 160 from h2)]
   exact ⟨rfl,fun h=>absurd rfl h⟩
 · rw [if_neg h2,if_neg (show ¬Sb.Dlt.fits bs 160 from h2)]
   exact ⟨rfl,fun _=>rfl⟩
theorem zqx (A:Option Addr) (bs:List Int) (c:Nat) (seed:Int) (w:World) (hA:IntsAt w w.heap.size .u8 A bs) (hz:Within 0 255 bs) (h8:bs.length≤8000) (h1:bs.length≠1):Calls Tryz.prog 112 #[.int .u8 13, .slice A bs.length c, .int .u32 seed] w (DecodeR ([],seed) w):=by
 have hl1:¬(bs.length:Int)=1:=by omega
 clear hA hz
 go_enter Tryz.func112,Tryz.ntmps112
 go_wp2_with fail
 go_ret2
 exact ⟨none,0,rfl,IntsNew.nil,Below.refl _ _⟩
theorem zqy (A:Option Addr) (bs:List Int) (c:Nat) (seed:Int) (w:World) (hA:IntsAt w w.heap.size .u8 A bs) (hz:Within 0 255 bs) (h8:bs.length≤8000) (h1:bs.length=1) (s0:0≤seed) (s1:seed≤4294967295):Calls Tryz.prog 112 #[.int .u8 13, .slice A bs.length c, .int .u32 seed] w (DecodeR ((Ev.noise (bs.getD 0 0) seed 160).1,(Ev.noise (bs.getD 0 0) seed 160).2.1) w):=by
 obtain ⟨x,rfl⟩:∃ x,bs=[x]:=by
  match bs,h1 with
  | [x],_=>exact ⟨x,rfl⟩
 obtain ⟨x0,x1⟩:=hz x (by simp)
 obtain ⟨b,off,rfl,hbB,qc⟩:=hA (by simp)
 have c0:=qc 0 (by simp)
 have k1:=H9 fun (W:World)=>zqw x seed W 160 x0 x1 s0 s1 (by omega)
 have e:((Ev.noise ([x].getD 0 0) seed 160).1,(Ev.noise ([x].getD 0 0) seed 160).2.1)=((List.range 160).map (fun k=>Ev.nsamp (Ev.amp (x / 6).toNat) seed k),Ev.seed seed 160):=by
  show ((Ev.noise x seed 160).1,(Ev.noise x seed 160).2.1)=_
  unfold Ev.noise
  rw [if_neg (by decide)];rfl
 rw [e]
 clear qc e hz h1
 simp only [List.getD_cons_zero,Nat.add_zero] at c0
 go_enter Tryz.func112,Tryz.ntmps112
 go_wp2_with fail
 refine (k1.out _).mono ?_
 rintro e w1 ⟨A1,c1,rfl,hI,hb1⟩
 go_wp2_with fail
 go_ret2
 exact ⟨A1,c1,by simp,hI,hb1⟩
theorem zqz (A:Option Addr) (bs:List Int) (c:Nat) (seed:Int) (w:World) (hA:IntsAt w w.heap.size .u8 A bs) (hz:Within 0 255 bs) (h8:bs.length≤8000):Calls Tryz.prog 112 #[.int .u8 0, .slice A bs.length c, .int .u32 seed] w (DecodeR (bs.map Cmp.fromMuZ,seed) w):=by
 have HA:=H9 hA
 clear hA
 go_enter Tryz.func112,Tryz.ntmps112
 go_wp2_with fail
 refine (zbn _).mono ?_
 rintro e w1 ⟨b,b1,b2,rfl,C,hb1⟩
 have kl:=(zbj C 0 (by omega) (by omega)).2
 have BL:=H9 C.l1
 have HB:=H9 hb1
 have IA:=H9 ((HA.out.later hb1).push (.cells (cLaw b1).cells 97))
 rw [show cAt b1 b2 0=cLaw b1 from rfl,show speechB 0=true from rfl] at kl
 simp only [cLaw,cDel] at kl
 clear C hb1 HA
 have BL2:=H9 (BL.out.push (.cells (cLaw b1).cells 97))
 go_wp2_with fail
 refine (zxa 160 A bs c b1 _ IA.out hz h8 BL2.out).mono ?_
 rintro e w2 ⟨A1,c1,rfl,hI,hb2⟩
 have hs:=HB.out.size
 have HI:=H9 (hI.less (m:=w.heap.size) (by rw [zbc];omega))
 have U:=H9 (((Bel.later (Bel.refl w) HB.out).push (.cells (cLaw b1).cells 97)).later hb2)
 clear hI hb2 HB
 go_wp2_with fail
 go_ret2
 exact ⟨A1,c1,by simp,HI.out,U.out⟩
theorem ztl (A:Option Addr) (bs:List Int) (c:Nat) (seed:Int) (w:World) (hA:IntsAt w w.heap.size .u8 A bs) (hz:Within 0 255 bs) (h8:bs.length≤8000):Calls Tryz.prog 112 #[.int .u8 8, .slice A bs.length c, .int .u32 seed] w (DecodeR (bs.map Cmp.fromAZ,seed) w):=by
 have HA:=H9 hA
 clear hA
 go_enter Tryz.func112,Tryz.ntmps112
 go_wp2_with fail
 refine (zbn _).mono ?_
 rintro e w1 ⟨b,b1,b2,rfl,C,hb1⟩
 have kl:=(zbj C 8 (by omega) (by omega)).2
 have BL:=H9 C.l2
 have HB:=H9 hb1
 have IA:=H9 ((HA.out.later hb1).push (.cells (cLaw b2).cells 97))
 rw [show cAt b1 b2 8=cLaw b2 from rfl,show speechB 8=true from rfl] at kl
 simp only [cLaw,cDel] at kl
 clear C hb1 HA
 have BL2:=H9 (BL.out.push (.cells (cLaw b2).cells 97))
 go_wp2_with fail
 refine (zxm 160 A bs c b2 _ IA.out hz h8 BL2.out).mono ?_
 rintro e w2 ⟨A1,c1,rfl,hI,hb2⟩
 have hs:=HB.out.size
 have HI:=H9 (hI.less (m:=w.heap.size) (by rw [zbc];omega))
 have U:=H9 (((Bel.later (Bel.refl w) HB.out).push (.cells (cLaw b2).cells 97)).later hb2)
 clear hI hb2 HB
 go_wp2_with fail
 go_ret2
 exact ⟨A1,c1,by simp,HI.out,U.out⟩
theorem zog (A:Option Addr) (bs:List Int) (c:Nat) (seed:Int) (w:World) (hA:IntsAt w w.heap.size .u8 A bs) (hz:Within 0 255 bs) (h8:bs.length≤8000) (hc:bs.length≤c):Calls Tryz.prog 112 #[.int .u8 96, .slice A bs.length c, .int .u32 seed] w (DecodeR (Sb.decS 96 bs,seed) w):=by
 have HA:=H9 hA
 clear hA
 have hm:bs.length≤maxLen:=by unfold maxLen;omega
 obtain ⟨un1,un2⟩:=zxb bs
 go_enter Tryz.func112,Tryz.ntmps112
 go_wp2_with fail
 refine (zbn _).mono ?_
 rintro e w1 ⟨b,b1,b2,rfl,C,hb1⟩
 have kl:=(zbj C 96 (by omega) (by omega)).2
 have HB:=H9 hb1
 have IA:=H9 ((HA.out.later hb1).push (.cells cDel.cells 97))
 rw [show cAt b1 b2 96=cDel from rfl,show speechB 96=true from rfl] at kl
 simp only [cLaw,cDel] at kl
 clear C hb1 HA
 go_wp2_with fail
 refine (zvu 160 A bs c _ IA.out hz hc hm).mono ?_
 rintro e w2 ⟨A1,c1,rfl,hI,hb2⟩
 have hs:=HB.out.size
 have HI:=H9 (hI.less (m:=w.heap.size) (by rw [zbc];omega))
 have U:=H9 (((Bel.later (Bel.refl w) HB.out).push (.cells cDel.cells 97)).later hb2)
 clear hI hb2 HB
 generalize Dlt.unpR bs 160=R at *
 obtain ⟨R1,R2,R3,R4⟩:=R
 replace un1:R1=Sb.decS 96 bs:=un1
 subst un1
 by_cases h4:R4=0
 rotate_left
 · have e4:=H9 (show Sb.decS 96 bs=[] from un2 h4)
   clear un2
   go_wp2_with fail
   go_ret2
   exact ⟨none,0,by rw [e4.out];rfl,by rw [e4.out];exact IntsNew.nil,U.out⟩
 subst h4
 clear un2
 go_wp2_with fail
 go_ret2
 exact ⟨A1,c1,by simp,HI.out,U.out⟩
theorem zra (A:Option Addr) (bs:List Int) (c:Nat) (seed:Int) (w:World) (hA:IntsAt w w.heap.size .u8 A bs) (hz:Within 0 255 bs) (h8:bs.length≤8000) (k:Int) (hk0:0≤k) (hk1:k≤255) (h13:¬k=13) (hs:¬(k=0∨k=8∨k=96)):Calls Tryz.prog 112 #[.int .u8 k, .slice A bs.length c, .int .u32 seed] w (DecodeR ([],seed) w):=by
 have HA:=H9 hA
 clear hA
 go_enter Tryz.func112,Tryz.ntmps112
 go_wp2_with fail
 refine (zbn _).mono ?_
 rintro e w1 ⟨b,b1,b2,rfl,C,hb1⟩
 have kl:=(zbj C k (by omega) (by omega)).2
 have HB:=H9 hb1
 have IA:=H9 ((HA.out.later hb1).push (.cells cNil.cells 97))
 rw [show cAt b1 b2 k=cNil by unfold cAt;rw [if_neg (by omega),if_neg (by omega),if_neg (by omega)],zdm hs] at kl
 simp only [cNil] at kl
 clear C hb1 HA
 go_wp2_with fail
 go_ret2
 exact ⟨none,0,rfl,IntsNew.nil,(Bel.later (Bel.refl w) HB.out).push _⟩
theorem zku (k:Int) (A:Option Addr) (bs:List Int) (c:Nat) (seed:Int) (w:World) (hA:IntsAt w w.heap.size .u8 A bs) (hz:Within 0 255 bs) (h8:bs.length≤8000) (hk0:0≤k) (hk1:k≤255) (s0:0≤seed) (s1:seed≤4294967295) (hc:k=96→bs.length≤c):Calls Tryz.prog 112 #[.int .u8 k, .slice A bs.length c, .int .u32 seed] w (DecodeR (Sb.dec k bs seed) w):=by
 unfold Sb.dec
 by_cases h13:k=13
 · subst h13
   rw [if_pos rfl]
   by_cases h1:bs.length=1
   · rw [if_pos h1];exact zqy A bs c seed w hA hz h8 h1 s0 s1
   · rw [if_neg h1];exact zqx A bs c seed w hA hz h8 h1
 rw [if_neg h13]
 by_cases h0:k=0
 · subst h0;exact zqz A bs c seed w hA hz h8
 by_cases h2:k=8
 · subst h2;exact ztl A bs c seed w hA hz h8
 by_cases h3:k=96
 · subst h3;exact zog A bs c seed w hA hz h8 (hc rfl)
 have e:Sb.decS k bs=[]:=by unfold Sb.decS;rw [if_neg h0,if_neg h2,if_neg h3]
 rw [e]
 exact zra A bs c seed w hA hz h8 k hk0 hk1 h13 (by omega)
end Go.Proofs.YtahbecinkciahaaGreat
