/- Layer 32: what decoders make is new (Unpack of the two laws, Noise, Unpack of delta). -/
import Derived.Test.YtbcgnddpkiemoaaGreatSs9Q
import Derived.Test.YtbcgnddpkiemoaaGreatJtCopyQ
import Derived.Deep.RegionHeld3
import Derived.Deep.RegionWith
import Derived.RegionTactic
import Derived.ChangeAlike
set_option linter.unusedVariables false
set_option linter.unusedSimpArgs false
set_option maxRecDepth 100000
set_option maxHeartbeats 12800000
namespace Go.Proofs.YtbcgnddpkiemoaaGreat
section
open Go.RowKit
section
theorem zdv (A:Option Addr) (zs:List Int) (cap:Nat) (w:World) (H:IntsAt w w.heap.size .u8 A zs) (hz:Within (0) 255 zs) (R:zs.length≤8000) :
 Calls Tryz.prog 31 #[.int .u8 1, .slice A zs.length cap] w fun e w' => ∃ A':Option Addr,e = .returned (.tuple #[.slice A' zs.length zs.length, .int .u8 0]) ∧
  IntsNew w.heap.size w' .i16 A' (zs.map Cmp.fromMuZ)∧Below w.heap.size w w':=by
 have D:=run_make_row' (P:=Tryz.prog) 51 104 (.int .i16 0) 2 Tryz.underlying51 zjb rfl .i64 .i64 zs.length (by omega) (by omega) w
 obtain ⟨W1,B⟩:=nm9 (w.alloc (.cells (madeCells #[.int .i16 0] zs.length) 104))
 have E:W1.rowIs w.heap.size 104 zs.length (fun _ => .int .i16 0):=by rw [B];exact World.rowIs_made w _ _ _
 have C:Below w.heap.size w W1:=by rw [B];exact (Below.refl _ _).alloc (Nat.le_refl _) _
 rw [← B] at D
 clear B
 go_enter Tryz.func31,Tryz.ntmps31
 go_wp2_with (go_at_call 67;refine (zoo _).mono ?_;rintro e w' ⟨rfl,rfl⟩)
 go_loopw [25] (fun i wr => ∃ k:Nat,k≤zs.length∧i = .int .i64 k∧wr.rowIs w.heap.size 104 zs.length (fun j => .int .i16 (if j<k then Cmp.fromMuZ (zs.getD j 0) else 0))∧Below w.heap.size w wr)
  (fun i _=>zs.length-(intOf i).toNat)
 case atStart=>exact ⟨0,Nat.zero_le _,rfl,E.congr (by simp),C⟩
 case round =>
  obtain ⟨k,hk,rfl,hr,hb⟩:=hrel
  by_cases hlt:k<zs.length
  · obtain ⟨b,off,rfl,L,qc⟩:=H (by omega)
    have G:=hz.at hlt
    have I:wr.cell? ⟨b,off+k,none⟩=some (.int .u8 (zs.getD k 0)):=(hb.cell (p:=⟨b,off+k,none⟩) L).trans (qc k hlt)
    have T:wr.cell? ⟨w.heap.size,k,none⟩=some (.int .i16 0):=by rw [hr.cell hlt];simp
    have V:=hr.frozen k
    have O:=hr.lt
    have Z:b≠w.heap.size:=by omega
    have X:w.heap.size≠b:=by omega
    have HR:=Z9 hr
    have K:=hb.size
    clear hr qc E C D
    generalize F:zs.getD k 0=z at I G
    have J:=Z9 F
    clear F
    obtain ⟨Y,f⟩:=G
    have c:(0:Int)≤(k:Int):=by omega
    have d:(k:Int)<(zs.length:Int):=by omega
    have N:=zhw
    have M:=zhx
    go_wp2
    go_region_held3 (fun w'=>w'.cell? ⟨b,off+k,none⟩=some (.int .u8 z)) (go_keep)
     (first|(go_at_call 160;refine (zrm _ _ (by omega) (by omega)).mono ?_;rintro e w' ⟨rfl,rfl⟩)|fail)
    go_wp2
    go_roundw
    case rel =>
     refine ⟨k+1,by omega,by go_num,?_,((hb.setCell (Nat.le_refl _) _).alloc (by simpa using K) _).drew⟩
     rw [← J.out]
     exact (zbf (g:=fun j=>Cmp.fromMuZ (zs.getD j 0)) HR.out).alloc _
    case measure=>simp [intOf];omega
  · obtain rfl:k=zs.length:=by omega
    have HR:=Z9 hr
    clear hr E C D
    go_wp2
    go_ret2
    exact ⟨_,rfl,⟨IntsAt.of_fill HR.out,fun _ U o' e=>by cases e;exact Nat.le_refl _⟩,hb⟩
theorem zfl (A:Option Addr) (zs:List Int) (cap:Nat) (w:World) (H:IntsAt w w.heap.size .u8 A zs) (hz:Within (0) 255 zs) (R:zs.length≤8000) :
 Calls Tryz.prog 31 #[.int .u8 2, .slice A zs.length cap] w fun e w' => ∃ A':Option Addr,e = .returned (.tuple #[.slice A' zs.length zs.length, .int .u8 0]) ∧
  IntsNew w.heap.size w' .i16 A' (zs.map Cmp.fromAZ)∧Below w.heap.size w w':=by
 have D:=run_make_row' (P:=Tryz.prog) 51 104 (.int .i16 0) 2 Tryz.underlying51 zjb rfl .i64 .i64 zs.length (by omega) (by omega) w
 obtain ⟨W1,B⟩:=nm9 (w.alloc (.cells (madeCells #[.int .i16 0] zs.length) 104))
 have E:W1.rowIs w.heap.size 104 zs.length (fun _ => .int .i16 0):=by rw [B];exact World.rowIs_made w _ _ _
 have C:Below w.heap.size w W1:=by rw [B];exact (Below.refl _ _).alloc (Nat.le_refl _) _
 rw [← B] at D
 clear B
 go_enter Tryz.func31,Tryz.ntmps31
 go_wp2_with (go_at_call 67;refine (zua _).mono ?_;rintro e w' ⟨rfl,rfl⟩)
 go_loopw [25] (fun i wr => ∃ k:Nat,k≤zs.length∧i = .int .i64 k∧wr.rowIs w.heap.size 104 zs.length (fun j => .int .i16 (if j<k then Cmp.fromAZ (zs.getD j 0) else 0))∧Below w.heap.size w wr)
  (fun i _=>zs.length-(intOf i).toNat)
 case atStart=>exact ⟨0,Nat.zero_le _,rfl,E.congr (by simp),C⟩
 case round =>
  obtain ⟨k,hk,rfl,hr,hb⟩:=hrel
  by_cases hlt:k<zs.length
  · obtain ⟨b,off,rfl,L,qc⟩:=H (by omega)
    have G:=hz.at hlt
    have I:wr.cell? ⟨b,off+k,none⟩=some (.int .u8 (zs.getD k 0)):=(hb.cell (p:=⟨b,off+k,none⟩) L).trans (qc k hlt)
    have T:wr.cell? ⟨w.heap.size,k,none⟩=some (.int .i16 0):=by rw [hr.cell hlt];simp
    have V:=hr.frozen k
    have O:=hr.lt
    have Z:b≠w.heap.size:=by omega
    have X:w.heap.size≠b:=by omega
    have HR:=Z9 hr
    have K:=hb.size
    clear hr qc E C D
    generalize F:zs.getD k 0=z at I G
    have J:=Z9 F
    clear F
    obtain ⟨Y,f⟩:=G
    have c:(0:Int)≤(k:Int):=by omega
    have d:(k:Int)<(zs.length:Int):=by omega
    have N:=zjc
    have M:=zjd
    go_wp2
    go_region_held3 (fun w'=>w'.cell? ⟨b,off+k,none⟩=some (.int .u8 z)) (go_keep)
     (first|(go_at_call 165;refine (zvd _ _ (by omega) (by omega)).mono ?_;rintro e w' ⟨rfl,rfl⟩)|fail)
    go_wp2
    go_roundw
    case rel =>
     refine ⟨k+1,by omega,by go_num,?_,((hb.setCell (Nat.le_refl _) _).alloc (by simpa using K) _).drew⟩
     rw [← J.out]
     exact (zbf (g:=fun j=>Cmp.fromAZ (zs.getD j 0)) HR.out).alloc _
    case measure=>simp [intOf];omega
  · obtain rfl:k=zs.length:=by omega
    have HR:=Z9 hr
    clear hr E C D
    go_wp2
    go_ret2
    exact ⟨_,rfl,⟨IntsAt.of_fill HR.out,fun _ U o' e=>by cases e;exact Nat.le_refl _⟩,hb⟩
theorem zlh (A:Option Addr) (zs:List Int) (cap:Nat) (w:World) (H:IntsAt w w.heap.size .i16 A zs) (hz:Within (-32768) 32767 zs) (R:zs.length≤8000) :
 Calls Tryz.prog 29 #[.int .u8 1, .slice A zs.length cap] w fun e w' => ∃ A':Option Addr,e = .returned (.tuple #[.slice A' zs.length zs.length, .int .u8 0]) ∧
  IntsNew w.heap.size w' .u8 A' (zs.map Cmp.muZ)∧Below w.heap.size w w':=by
 have D:=run_make_row' (P:=Tryz.prog) 69 5 (.int .u8 0) 1 Tryz.underlying69 zub rfl .i64 .i64 zs.length (by omega) (by omega) w
 obtain ⟨W1,B⟩:=nm9 (w.alloc (.cells (madeCells #[.int .u8 0] zs.length) 5))
 have E:W1.rowIs w.heap.size 5 zs.length (fun _ => .int .u8 0):=by rw [B];exact World.rowIs_made w _ _ _
 have C:Below w.heap.size w W1:=by rw [B];exact (Below.refl _ _).alloc (Nat.le_refl _) _
 rw [← B] at D
 clear B
 go_enter Tryz.func29,Tryz.ntmps29
 go_wp2_with (go_at_call 67;refine (zoo _).mono ?_;rintro e w' ⟨rfl,rfl⟩)
 go_loopw [25] (fun i wr => ∃ k:Nat,k≤zs.length∧i = .int .i64 k∧wr.rowIs w.heap.size 5 zs.length (fun j => .int .u8 (if j<k then Cmp.muZ (zs.getD j 0) else 0))∧Below w.heap.size w wr)
  (fun i _=>zs.length-(intOf i).toNat)
 case atStart=>exact ⟨0,Nat.zero_le _,rfl,E.congr (by simp),C⟩
 case round =>
  obtain ⟨k,hk,rfl,hr,hb⟩:=hrel
  by_cases hlt:k<zs.length
  · obtain ⟨b,off,rfl,L,qc⟩:=H (by omega)
    have G:=hz.at hlt
    have I:wr.cell? ⟨b,off+k,none⟩=some (.int .i16 (zs.getD k 0)):=(hb.cell (p:=⟨b,off+k,none⟩) L).trans (qc k hlt)
    have T:wr.cell? ⟨w.heap.size,k,none⟩=some (.int .u8 0):=by rw [hr.cell hlt];simp
    have V:=hr.frozen k
    have O:=hr.lt
    have Z:b≠w.heap.size:=by omega
    have X:w.heap.size≠b:=by omega
    have HR:=Z9 hr
    have K:=hb.size
    clear hr qc E C D
    generalize F:zs.getD k 0=z at I G
    have J:=Z9 F
    clear F
    obtain ⟨Y,f⟩:=G
    have c:(0:Int)≤(k:Int):=by omega
    have d:(k:Int)<(zs.length:Int):=by omega
    have N:=zma
    have M:=zmb
    go_wp2
    go_region_held3 (fun w'=>w'.cell? ⟨b,off+k,none⟩=some (.int .i16 z)) (go_keep)
     (first|(go_at_call 159;refine (zxa _ _ (by omega) (by omega)).mono ?_;rintro e w' ⟨rfl,rfl⟩)|fail)
    go_wp2
    go_roundw
    case rel =>
     refine ⟨k+1,by omega,by go_num,?_,((hb.setCell (Nat.le_refl _) _).alloc (by simpa using K) _).drew⟩
     rw [← J.out]
     exact (zbf (g:=fun j=>Cmp.muZ (zs.getD j 0)) HR.out).alloc _
    case measure=>simp [intOf];omega
  · obtain rfl:k=zs.length:=by omega
    have HR:=Z9 hr
    clear hr E C D
    go_wp2
    go_ret2
    exact ⟨_,rfl,⟨IntsAt.of_fill HR.out,fun _ U o' e=>by cases e;exact Nat.le_refl _⟩,hb⟩
theorem zqj (A:Option Addr) (zs:List Int) (cap:Nat) (w:World) (H:IntsAt w w.heap.size .i16 A zs) (hz:Within (-32768) 32767 zs) (R:zs.length≤8000) :
 Calls Tryz.prog 29 #[.int .u8 2, .slice A zs.length cap] w fun e w' => ∃ A':Option Addr,e = .returned (.tuple #[.slice A' zs.length zs.length, .int .u8 0]) ∧
  IntsNew w.heap.size w' .u8 A' (zs.map Cmp.aZ)∧Below w.heap.size w w':=by
 have D:=run_make_row' (P:=Tryz.prog) 69 5 (.int .u8 0) 1 Tryz.underlying69 zub rfl .i64 .i64 zs.length (by omega) (by omega) w
 obtain ⟨W1,B⟩:=nm9 (w.alloc (.cells (madeCells #[.int .u8 0] zs.length) 5))
 have E:W1.rowIs w.heap.size 5 zs.length (fun _ => .int .u8 0):=by rw [B];exact World.rowIs_made w _ _ _
 have C:Below w.heap.size w W1:=by rw [B];exact (Below.refl _ _).alloc (Nat.le_refl _) _
 rw [← B] at D
 clear B
 go_enter Tryz.func29,Tryz.ntmps29
 go_wp2_with (go_at_call 67;refine (zua _).mono ?_;rintro e w' ⟨rfl,rfl⟩)
 go_loopw [25] (fun i wr => ∃ k:Nat,k≤zs.length∧i = .int .i64 k∧wr.rowIs w.heap.size 5 zs.length (fun j => .int .u8 (if j<k then Cmp.aZ (zs.getD j 0) else 0))∧Below w.heap.size w wr)
  (fun i _=>zs.length-(intOf i).toNat)
 case atStart=>exact ⟨0,Nat.zero_le _,rfl,E.congr (by simp),C⟩
 case round =>
  obtain ⟨k,hk,rfl,hr,hb⟩:=hrel
  by_cases hlt:k<zs.length
  · obtain ⟨b,off,rfl,L,qc⟩:=H (by omega)
    have G:=hz.at hlt
    have I:wr.cell? ⟨b,off+k,none⟩=some (.int .i16 (zs.getD k 0)):=(hb.cell (p:=⟨b,off+k,none⟩) L).trans (qc k hlt)
    have T:wr.cell? ⟨w.heap.size,k,none⟩=some (.int .u8 0):=by rw [hr.cell hlt];simp
    have V:=hr.frozen k
    have O:=hr.lt
    have Z:b≠w.heap.size:=by omega
    have X:w.heap.size≠b:=by omega
    have HR:=Z9 hr
    have K:=hb.size
    clear hr qc E C D
    generalize F:zs.getD k 0=z at I G
    have J:=Z9 F
    clear F
    obtain ⟨Y,f⟩:=G
    have c:(0:Int)≤(k:Int):=by omega
    have d:(k:Int)<(zs.length:Int):=by omega
    have N:=zop
    have M:=zoq
    go_wp2
    go_region_held3 (fun w'=>w'.cell? ⟨b,off+k,none⟩=some (.int .i16 z)) (go_keep)
     (first|(go_at_call 164;refine (zyt _ _ (by omega) (by omega)).mono ?_;rintro e w' ⟨rfl,rfl⟩)|fail)
    go_wp2
    go_roundw
    case rel =>
     refine ⟨k+1,by omega,by go_num,?_,((hb.setCell (Nat.le_refl _) _).alloc (by simpa using K) _).drew⟩
     rw [← J.out]
     exact (zbf (g:=fun j=>Cmp.aZ (zs.getD j 0)) HR.out).alloc _
    case measure=>simp [intOf];omega
  · obtain rfl:k=zs.length:=by omega
    have HR:=Z9 hr
    clear hr E C D
    go_wp2
    go_ret2
    exact ⟨_,rfl,⟨IntsAt.of_fill HR.out,fun _ U o' e=>by cases e;exact Nat.le_refl _⟩,hb⟩
end
attribute [local go_sem] zaa zad
section
variable (l s n:Int) (w:World)
def NoiseN (a s:Int) (m:Nat) (w:World) (e:Ending) (w':World):Prop :=
 ∃ (A':Option Addr) (c':Nat),e = .returned (.tuple #[.slice A' m c', .int .u32 (Ev.seed s m), .int .u8 0])∧IntsNew w.heap.size w' .i16 A' ((List.range m).map fun k=>Ev.nsamp a s k)∧Below w.heap.size w w'
theorem zqk (m:Nat) (h0:0≤l) (h1:l≤255) (s0:0≤s) (s1:s≤4294967295) (hm:m≤8000) :
 Calls Tryz.prog 132 #[.int .u8 l, .int .u32 s, .int .i64 m] w (NoiseN (Ev.amp (l / 6).toNat) s m w):=by
 obtain ⟨p,hp⟩:=Int.eq_ofNat_of_zero_le (a:=l / 6) (by omega)
 have N:(32767:Int) / 2 ^ p=Ev.amp p:=Ev.amp_pow ⟨p,by omega⟩
 have G:=run_make_row' (P:=Tryz.prog) 51 104 (.int .i16 0) 2 Tryz.underlying51 Ev.info_i16 rfl .i64 .i64 m (by omega) (by omega) w
 obtain ⟨W1,A⟩:=nm9 (w.alloc (.cells (madeCells #[.int .i16 0] m) 104))
 have H:W1.rowIs w.heap.size 104 m (fun _ => .int .i16 0):=by rw [A];exact World.rowIs_made w _ _ _
 have B:Below w.heap.size w W1:=by rw [A];exact (Below.refl _ _).alloc (Nat.le_refl _) _
 rw [← A] at G
 clear A
 rw [hp,Int.toNat_natCast]
 have J:=Ev.amp_bd p
 obtain ⟨a0,T⟩:=J
 generalize Ev.amp p=a at *
 go_enter Tryz.func132,Tryz.ntmps132
 go_wp2
 go_loopw [1,24] (fun sd i wr => ∃ k:Nat,k≤m∧i = .int .i64 k∧sd = .int .u32 (Ev.seed s k)∧wr.rowIs w.heap.size 104 m (fun j => .int .i16 (if j<k then Ev.nsamp a s j else 0))∧Below w.heap.size w wr) (fun _ i _=>m-(intOf i).toNat)
 case atStart=>exact ⟨0,Nat.zero_le _,rfl,rfl,H.congr (by simp),B⟩
 case round =>
  obtain ⟨k,hk,rfl,rfl,hr,hb⟩:=hrel
  clear H B G
  by_cases hlt:k<m
  · have O:wr.cell? ⟨w.heap.size,k,none⟩=some (.int .i16 0):=by rw [hr.cell hlt];simp
    have U:=hr.frozen k
    have I:=Ev.seed_bd s s0 s1 k
    obtain ⟨b0,b1⟩:=I
    have C:Ev.seed s (k+1)=(Ev.seed s k*1103515245+12345) % 4294967296:=rfl
    have F:Ev.nsamp a s k=Ev.seed s (k+1) / 65536 % (2*a+1)-a:=rfl
    have D:=Ev.nsamp_bd a s a0 k
    have HR:=Z9 hr
    have E:=Z9 C
    have L:=Z9 F
    have K:=Z9 D
    have V:(0:Int)≤(k:Int):=by omega
    have X:(k:Int)<(m:Int):=by omega
    clear hr C F D
    generalize Ev.seed s k=x at *
    have hv:IntKind.i16.wrap (wrap64 ((1103515245*x+12345) % 4294967296 / 65536 % (2*a+1)-a))=Ev.nsamp a s k:=by
     have h1:=K.out
     rw [L.out,E.out,show x*1103515245+12345=1103515245*x+12345 by omega] at h1 ⊢
     rw [IntWalk.wrap64_in _ ⟨by omega,by omega⟩]
     simp only [IntKind.wrap,IntKind.bits,IntKind.signed]
     simp
     omega
    have M:=Z9 hv
    clear hv
    go_wp2
    go_roundw
    case rel =>
     refine ⟨k+1,by omega,by go_num,?_,?_,hb.setCell (Nat.le_refl _) _⟩
     · rw [E.out];congr 1;omega
     · rw [M.out];exact zbf (g:=fun j=>Ev.nsamp a s j) HR.out
    case measure=>simp [intOf];omega
  · obtain rfl:k=m:=by omega
    have HR:=Z9 hr
    clear hr
    go_wp2
    go_ret3
    refine ⟨_,_,rfl,⟨?_,fun _ R o' e=>by cases e;exact Nat.le_refl _⟩,hb⟩
    refine IntsAt.of_row HR.out (by simp) fun i hi => ?_
    have hi':i<k:=by simpa using hi
    rw [if_pos hi']
    simp [List.getD_eq_getElem?_getD,List.getElem?_range hi']
end
section
theorem zmy (n:Nat) (A:Option Addr) (bs:List Int) (cap:Nat) (w:World) (hn:n≤8000) (Jq:0<n) (hA:IntsAt w w.heap.size .u8 A bs) (hz:Within 0 255 bs) (As:Dlt.okB bs n) (Av:bs.length≤cap) :
 Calls Tryz.prog 32 #[.slice A bs.length cap, .int .i64 n] w fun e w' => ∃ (A':Option Addr) (c':Nat),e = .returned (.tuple #[.slice A' n c', .agg #[.int .i64 (Dlt.dAt (Dlt.headS bs) bs n).1, .int .i64 (Dlt.dAt (Dlt.headS bs) bs n).2], .int .u8 0]) ∧
  IntsNew w.heap.size w' .i16 A' (Dlt.unpackL bs n)∧Below w.heap.size w w':=by
 have iB:=Z9 (Dlt.headS_valid bs n As hz)
 obtain ⟨wU,WU,mJ,sM⟩:=As
 obtain ⟨b,off,rfl,G,qc⟩:=hA (by omega)
 have c0:=qc 0 (by omega)
 have c1:=qc 1 (by omega)
 have c2:=qc 2 (by omega)
 have c3:=qc 3 (by omega)
 have cl:=qc (bs.length-1) (by omega)
 obtain ⟨l0,l1⟩:=hz.at (i:=bs.length-1) (by omega)
 obtain ⟨a0,a1⟩:=hz.at (i:=0) (by omega)
 obtain ⟨b0,b1⟩:=hz.at (i:=1) (by omega)
 obtain ⟨g0,g1⟩:=hz.at (i:=2) (by omega)
 have bO:b≠w.heap.size:=by omega
 have AY:b≠w.heap.size+1:=by omega
 generalize Yj:bs.getD 0 0=x0 at *
 generalize Zd:bs.getD 1 0=x1 at *
 generalize mR:bs.getD 2 0=B at *
 generalize xC:bs.getD 3 0=x3 at *
 have EZ:=Z9 (show bs.getD 3 0=0 by rw [xC,mJ])
 subst mJ
 generalize bs.getD (bs.length-1) 0=W at *
 have Pu:=Z9 Yj
 have Oe:=Z9 Zd
 have Xt:=Z9 mR
 have cD:=Z9 qc
 have HZ:=Z9 hz
 generalize hM:bs.length=M at *
 have cC:=Z9 hM
 clear hA hz qc Yj Zd mR hM
 have F1:(4:Int)≤(M:Int):=by omega
 have Yq:(2:Int)<(M:Int):=by omega
 have Xp:(3:Int)<(M:Int):=by omega
 have F3:(1:Int)<(M:Int):=by omega
 have F4:(0:Int)<(M:Int):=by omega
 have Fe:(0:Int)≤(M:Int)-1:=by omega
 have Az:(M:Int)-1<(M:Int):=by omega
 have Dd:((M:Int)-1).toNat=M-1:=by omega
 have Tc:(w.alloc (.cells #[.int .i64 0, .int .i64 0] 30)).cell? ⟨b,off,none⟩=some (.int .u8 x0):=(World.cell?_alloc_lt w _ _ G).trans c0
 have Uq:(w.alloc (.cells #[.int .i64 0, .int .i64 0] 30)).cell? ⟨b,off+1,none⟩=some (.int .u8 x1):=(World.cell?_alloc_lt w _ _ G).trans c1
 have Xs:(w.alloc (.cells #[.int .i64 0, .int .i64 0] 30)).cell? ⟨b,off+2,none⟩=some (.int .u8 B):=(World.cell?_alloc_lt w _ _ G).trans c2
 have bT:(w.alloc (.cells #[.int .i64 0, .int .i64 0] 30)).cell? ⟨b,off+3,none⟩=some (.int .u8 0):=(World.cell?_alloc_lt w _ _ G).trans c3
 have RD:(w.alloc (.cells #[.int .i64 0, .int .i64 0] 30)).cell? ⟨b,off+(M-1),none⟩=some (.int .u8 W):=(World.cell?_alloc_lt w _ _ G).trans cl
 have EC:((w.alloc (.cells #[.int .i64 0, .int .i64 0] 30)).alloc (.cells #[.int .i64 0, .int .i64 0] 30)).cell? ⟨b,off,none⟩=some (.int .u8 x0):=(World.cell?_alloc_lt _ _ _ (by simp;omega)).trans ((World.cell?_alloc_lt w _ _ G).trans c0)
 have EB:((w.alloc (.cells #[.int .i64 0, .int .i64 0] 30)).alloc (.cells #[.int .i64 0, .int .i64 0] 30)).cell? ⟨b,off+1,none⟩=some (.int .u8 x1):=(World.cell?_alloc_lt _ _ _ (by simp;omega)).trans ((World.cell?_alloc_lt w _ _ G).trans c1)
 have DZ:((w.alloc (.cells #[.int .i64 0, .int .i64 0] 30)).alloc (.cells #[.int .i64 0, .int .i64 0] 30)).cell? ⟨b,off+2,none⟩=some (.int .u8 B):=(World.cell?_alloc_lt _ _ _ (by simp;omega)).trans ((World.cell?_alloc_lt w _ _ G).trans c2)
 clear c0 c1 c2 c3 cl
 obtain ⟨N,hN⟩:=nm9 (4+(n+1) / 2)
 obtain rfl:M=N:=by omega
 have HS:=Z9 hN.symm
 have h5:5≤M:=by omega
 have h5':M≤4005:=by omega
 clear hN wU
 have T:(n:Int) % 2=0∨((n:Int) % 2=1∧(W % 16 != 0)=false):=by
  by_cases h:n % 2=1
  · exact .inr ⟨by omega,by have:=sM h;simp [this]⟩
  · exact .inl (by omega)
 clear sM
 go_enter Tryz.func32,Tryz.ntmps32
 go_wp2_with fail
 refine (zax n _ hn).mono ?_
 rintro e w' ⟨rfl,rfl⟩
 rw [HS.out]
 go_wp2_with fail
 refine (zax n _ hn).mono ?_
 rintro e w' ⟨rfl,rfl⟩
 rw [HS.out]
 have Px:=Z9 zgx
 have Wg:=zkk
 rcases T with hp|⟨hp,hq⟩
 all_goals
  go_wp2_with fail
  go_region
  go_wp2_with fail
  have oR:=zia x0 x1 a0 a1 b0 b1
  generalize wrap64 (IntKind.i16.wrap (bits BinOp.or IntKind.u16 (x0*256) x1))=V0 at *
  refine (zen _).mono ?_
  rintro e w3 ⟨rfl,X⟩
  have b0:Blk ((w.alloc (.cells #[.int .i64 0, .int .i64 0] 30)).alloc (.cells #[.int .i64 V0, .int .i64 B] 30)).drew w.heap.size 30 #[.int .i64 0, .int .i64 0]:=((Blk.new w _ _).alloc _).drew
  have b1:Blk ((w.alloc (.cells #[.int .i64 0, .int .i64 0] 30)).alloc (.cells #[.int .i64 V0, .int .i64 B] 30)).drew (w.heap.size+1) 30 #[.int .i64 V0, .int .i64 B]:=by
   have h:=Blk.new (w.alloc (.cells #[.int .i64 0, .int .i64 0] 30)) 30 #[.int .i64 V0, .int .i64 B]
   rw [show (w.alloc (.cells #[.int .i64 0, .int .i64 0] 30)).heap.size=w.heap.size+1 by simp] at h
   exact h.drew
  have z:Below w.heap.size w ((w.alloc (.cells #[.int .i64 0, .int .i64 0] 30)).alloc (.cells #[.int .i64 V0, .int .i64 B] 30)).drew:=(((Below.refl _ w).alloc (Nat.le_refl _) _).alloc (by simp) _).drew
  have Nw:w.heap.size+1+1≤w3.heap.size:=by have:=X.size;simpa using this
  have H:=Z9 ((b0.later X).later (zbc w3))
  have L:=Z9 ((b1.later X).later (zbc w3))
  have Yu:=Z9 ((z.trans (X.mono z.size)).trans ((zbc w3).mono (by omega)))
  have F:=Z9 (zdo w3)
  have HT:=Z9 (zcm w3)
  have bW:=Z9 (zez w3)
  have Bm:=run_make_row' (P:=Tryz.prog) 51 104 (.int .i16 0) 2 Tryz.underlying51 zot rfl .i64 .i64 n (by omega) (by omega) (laidW w3)
  clear b0 b1 z X Tc Uq Xs bT RD EC EB DZ
  go_wp2_with (first
   | (refine wpList_store_mid rfl 196 (.tmp 9) (.tmp 82) (by rfl) w3.heap.size 0 Dlt.szA (by rfl) (by rfl) HT.out Px.out zjf ?_;change wpList _ _ _ _ _ (laidW w3);generalize laidW w3=W4 at *; generalize w3.heap.size=g at *; clear Wg HT Px)
   | fail)
  have HH:Hid (Dlt.headS bs=(V0,B)):=Z9 (by unfold Dlt.headS;rw [Pu.out,Oe.out,Xt.out,oR])
  have qX:Hid (Dlt.valid V0 B=true):=Z9 (by have h:=iB.out;rw [HH.out] at h;exact h)
  generalize hr:W4.heap.size=r at *
  have YO:w.heap.size+1+1≤r:=by have:=bW.out;omega
  have iE:=Z9 bW.out
  clear Bm oR
  go_loopw [86] (fun q wr => ∃ k:Nat,k≤n∧q = .int .i64 k∧Blk wr w.heap.size 30 #[.int .i64 0, .int .i64 0] ∧
   Blk wr (w.heap.size+1) 30 #[.int .i64 (Dlt.dAt (V0,B) bs k).1, .int .i64 (Dlt.dAt (V0,B) bs k).2] ∧
   wr.rowIs r 104 n (fun j => .int .i16 (if j<k then (Dlt.dAt (V0,B) bs (j+1)).1 else 0))∧StepsAt wr g∧Below w.heap.size w wr)
   (fun q _=>n-(intOf q).toNat)
  case atStart =>
   refine ⟨0,Nat.zero_le _,rfl,H.out.alloc _,L.out.alloc _,?_,?_,?_⟩
   · have h:=World.rowIs_made W4 (.int .i16 0) n 104
     rw [hr] at h
     exact h.congr fun j _=>by simp
   · exact F.out.below ((Below.refl _ _).alloc (Nat.le_refl _) _)
   · exact Yu.out.alloc (by omega) _
  case round =>
   obtain ⟨k,hk,rfl,K,E,R,Q,hb⟩:=hrel
   clear H L F Yu
   have qY:=Z9 (Dlt.dAt_valid (V0,B) qX.out bs k)
   have TO:Hid (Dlt.dAt (V0,B) bs (k+1)=(Dlt.nextV (Dlt.dAt (V0,B) bs k).1 (Dlt.dAt (V0,B) bs k).2 (Dlt.nib bs k),Dlt.nextI (Dlt.dAt (V0,B) bs k).2 (Dlt.nib bs k))):=Z9 rfl
   by_cases hlt:k<n
   · have PS:4+k / 2<M:=by have:=HS.out;omega
     have t:wr.cell? ⟨b,off+4+k / 2,none⟩=some (.int .u8 (bs.getD (4+k / 2) 0)):=by
      rw [Nat.add_assoc]
      exact (hb.cell (p:=⟨b,off+(4+k / 2),none⟩) G).trans (cD.out _ PS)
     have Qb:=HZ.out.at (i:=4+k / 2) (by rw [cC.out];exact PS)
     have l:Dlt.nib bs k=if k % 2=0 then bs.getD (4+k / 2) 0 / 16 else bs.getD (4+k / 2) 0 % 16:=rfl
     generalize bs.getD (4+k / 2) 0=x at t Qb l
     obtain ⟨z0,z1⟩:=Qb
     generalize hc:Dlt.nib bs k=c at *
     generalize Y:(Dlt.dAt (V0,B) bs k).1=V at *
     generalize Z:(Dlt.dAt (V0,B) bs k).2=I at *
     have HC:=Z9 l
     have c0:=E.at 0 _ rfl
     have c1:=E.at 1 _ rfl
     have f0:=E.frozen 0
     have f1:=E.frozen 1
     have H:=Z9 K
     have L:=Z9 E
     have HR:=Z9 R
     have F:=Z9 Q
     have J:=Z9 hb
     have Qj:(0:Int)≤(k:Int) / 2:=by omega
     have Pb:(k:Int) / 2<((M-4:Nat):Int):=by omega
     have Eu:(0:Int)≤(k:Int):=by omega
     have Ug:(k:Int)<(n:Int):=by omega
     clear K E R Q hb Y Z hc l
     by_cases T:k % 2=0
     · have Wq:(k:Int) % 2=0:=by omega
       have U:x / 16 % 16=c:=by have:=HC.out;rw [if_pos T] at this;omega
       have y:=Z9 U
       have f:0≤c:=by omega
       have d:c≤15:=by omega
       clear T U
       go_wp2_with fail
       rw [y.out]
       refine (zdn g V I c _ F.out qY.out f d).mono ?_
       rintro e w6 ⟨rfl,C⟩
       have u:=Z9 (H.out.later C)
       have D:=Z9 (L.out.later C)
       have O:=Z9 (zbk HR.out C HR.out.lt)
       have o:=Z9 (F.out.below C)
       have m:=Z9 (J.out.trans (C.mono J.out.size))
       clear C H L HR F J c0 c1 f0 f1 t
       have c0:=D.out.at 0 _ rfl
       have c1:=D.out.at 1 _ rfl
       have f0:=D.out.frozen 0
       have f1:=D.out.frozen 1
       have tN:=O.out.cell (i:=k) (by omega)
       have MY:=O.out.frozen k
       have Iw:w.heap.size+1≠r:=by omega
       have Id:r≠w.heap.size+1:=by omega
       obtain ⟨WZ,WY⟩:=Dlt.nextV_bd V I c
       go_wp2
       go_roundw
       case rel =>
        have h:=zec Nw iE.out u.out D.out O.out o.out m.out TO.out
        exact ⟨k+1,by omega,by go_num,h⟩
       case measure=>simp [intOf];omega
     · have Wq:(k:Int) % 2=1:=by omega
       have U:x % 16=c:=by have:=HC.out;rw [if_neg T] at this;omega
       have y:=Z9 U
       have f:0≤c:=by omega
       have d:c≤15:=by omega
       clear T U
       go_wp2_with fail
       rw [y.out]
       refine (zdn g V I c _ F.out qY.out f d).mono ?_
       rintro e w6 ⟨rfl,C⟩
       have u:=Z9 (H.out.later C)
       have D:=Z9 (L.out.later C)
       have O:=Z9 (zbk HR.out C HR.out.lt)
       have o:=Z9 (F.out.below C)
       have m:=Z9 (J.out.trans (C.mono J.out.size))
       clear C H L HR F J c0 c1 f0 f1 t
       have c0:=D.out.at 0 _ rfl
       have c1:=D.out.at 1 _ rfl
       have f0:=D.out.frozen 0
       have f1:=D.out.frozen 1
       have tN:=O.out.cell (i:=k) (by omega)
       have MY:=O.out.frozen k
       have Iw:w.heap.size+1≠r:=by omega
       have Id:r≠w.heap.size+1:=by omega
       obtain ⟨WZ,WY⟩:=Dlt.nextV_bd V I c
       go_wp2
       go_roundw
       case rel =>
        have h:=zec Nw iE.out u.out D.out O.out o.out m.out TO.out
        exact ⟨k+1,by omega,by go_num,h⟩
       case measure=>simp [intOf];omega
   · obtain rfl:k=n:=by omega
     have H:=Z9 K
     have L:=Z9 E
     have HR:=Z9 R
     have J:=Z9 hb
     have a:=Z9 (show Dlt.headS bs=(V0,B) from HH.out)
     generalize Y:(Dlt.dAt (V0,B) bs k).1=V at *
     generalize Z:(Dlt.dAt (V0,B) bs k).2=I at *
     have HV:=Z9 Y
     have HI:=Z9 Z
     have c0:=E.at 0 _ rfl
     have c1:=E.at 1 _ rfl
     have d0:=K.at 0 _ rfl
     have d1:=K.at 1 _ rfl
     have f0:=K.frozen 0
     have f1:=K.frozen 1
     clear K E R Q hb Y Z
     go_wp2
     go_region
     go_wp2
     refine bodyPost_ret (v := .tuple #[.slice (some ⟨r,0,none⟩) k k, .agg #[.int .i64 V, .int .i64 I], .int .u8 0]) (by simp [results,Tryz.results32,go_sem,d0,d1]) rfl ?_
     refine ⟨some ⟨r,0,none⟩,k,by rw [a.out,HV.out,HI.out],?_,?_⟩
     · refine ⟨?_,fun _ b' o' e=>by cases e;omega⟩
       refine IntsAt.of_row (((HR.out.setOther (by simp;omega) _).setOther (by simp;omega) _).drew) (by simp [Dlt.unpackL]) fun j hj => ?_
       have jO:j<k:=by simpa [Dlt.unpackL] using hj
       rw [if_pos jO,Dlt.unpackL,a.out]
       simp [List.getD_eq_getElem?_getD,List.getElem?_range jO]
     · exact ((J.out.setCell (by simp) _).setCell (by simp) _).drew
end
end
section
attribute [local go_sem] zaa zad
open Go.RowKit
theorem zjx (A:Option Addr) (bs:List Int) (cap:Nat) (w:World) (L:IntsAt w w.heap.size .u8 A bs) (hz:Within 0 255 bs) (d:Dlt.okB bs 0) (Av:bs.length≤cap) :
 Calls Tryz.prog 32 #[.slice A bs.length cap, .int .i64 0] w fun e w' => ∃ (A':Option Addr) (c':Nat),e = .returned (.tuple #[.slice A' 0 c', .agg #[.int .i64 (Dlt.dAt (Dlt.headS bs) bs 0).1, .int .i64 (Dlt.dAt (Dlt.headS bs) bs 0).2], .int .u8 0]) ∧
  IntsAt w' w'.heap.size .i16 A' (Dlt.unpackL bs 0)∧Below w.heap.size w w':=by
 have m:=Z9 (Dlt.headS_valid bs 0 d hz)
 obtain ⟨g,WU,J,l⟩:=d
 obtain ⟨b,off,rfl,C,qc⟩:=L (by omega)
 have c0:=qc 0 (by omega)
 have c1:=qc 1 (by omega)
 have c2:=qc 2 (by omega)
 have c3:=qc 3 (by omega)
 obtain ⟨a0,p⟩:=hz.at (i:=0) (by omega)
 obtain ⟨b0,b1⟩:=hz.at (i:=1) (by omega)
 obtain ⟨g0,g1⟩:=hz.at (i:=2) (by omega)
 have bO:b≠w.heap.size:=by omega
 have AY:b≠w.heap.size+1:=by omega
 generalize T:bs.getD 0 0=x0 at *
 generalize O:bs.getD 1 0=x1 at *
 generalize I:bs.getD 2 0=B at *
 generalize f:bs.getD 3 0=x3 at *
 have EZ:=Z9 (show bs.getD 3 0=0 by rw [f,J])
 subst J
 have W:=Z9 T
 have a:=Z9 O
 have t:=Z9 I
 have cD:=Z9 qc
 have HZ:=Z9 hz
 generalize K:bs.length=M at *
 have cC:=Z9 K
 clear L hz qc T O I K
 obtain rfl:M=4:=by omega
 clear g l
 have Q:(w.alloc (.cells #[.int .i64 0, .int .i64 0] 30)).cell? ⟨b,off,none⟩=some (.int .u8 x0):=(World.cell?_alloc_lt w _ _ C).trans c0
 have z:(w.alloc (.cells #[.int .i64 0, .int .i64 0] 30)).cell? ⟨b,off+1,none⟩=some (.int .u8 x1):=(World.cell?_alloc_lt w _ _ C).trans c1
 have u:(w.alloc (.cells #[.int .i64 0, .int .i64 0] 30)).cell? ⟨b,off+2,none⟩=some (.int .u8 B):=(World.cell?_alloc_lt w _ _ C).trans c2
 have o:(w.alloc (.cells #[.int .i64 0, .int .i64 0] 30)).cell? ⟨b,off+3,none⟩=some (.int .u8 0):=(World.cell?_alloc_lt w _ _ C).trans c3
 have EC:((w.alloc (.cells #[.int .i64 0, .int .i64 0] 30)).alloc (.cells #[.int .i64 0, .int .i64 0] 30)).cell? ⟨b,off,none⟩=some (.int .u8 x0):=(World.cell?_alloc_lt _ _ _ (by simp;omega)).trans ((World.cell?_alloc_lt w _ _ C).trans c0)
 have EB:((w.alloc (.cells #[.int .i64 0, .int .i64 0] 30)).alloc (.cells #[.int .i64 0, .int .i64 0] 30)).cell? ⟨b,off+1,none⟩=some (.int .u8 x1):=(World.cell?_alloc_lt _ _ _ (by simp;omega)).trans ((World.cell?_alloc_lt w _ _ C).trans c1)
 have DZ:((w.alloc (.cells #[.int .i64 0, .int .i64 0] 30)).alloc (.cells #[.int .i64 0, .int .i64 0] 30)).cell? ⟨b,off+2,none⟩=some (.int .u8 B):=(World.cell?_alloc_lt _ _ _ (by simp;omega)).trans ((World.cell?_alloc_lt w _ _ C).trans c2)
 clear c0 c1 c2 c3
 go_enter Tryz.func32,Tryz.ntmps32
 go_wp2_with fail
 refine (zax 0 _ (by omega)).mono ?_
 rintro e w' ⟨rfl,rfl⟩
 go_wp2_with fail
 refine (zax 0 _ (by omega)).mono ?_
 rintro e w' ⟨rfl,rfl⟩
 have V:=Z9 zgx
 have x:=zkk
 all_goals
  go_wp2_with fail
  go_region
  go_wp2_with fail
  have H:=zia x0 x1 a0 p b0 b1
  generalize wrap64 (IntKind.i16.wrap (bits BinOp.or IntKind.u16 (x0*256) x1))=V0 at *
  refine (zen _).mono ?_
  rintro e w3 ⟨rfl,E⟩
  have b0:Blk ((w.alloc (.cells #[.int .i64 0, .int .i64 0] 30)).alloc (.cells #[.int .i64 V0, .int .i64 B] 30)).drew w.heap.size 30 #[.int .i64 0, .int .i64 0]:=((Blk.new w _ _).alloc _).drew
  have b1:Blk ((w.alloc (.cells #[.int .i64 0, .int .i64 0] 30)).alloc (.cells #[.int .i64 V0, .int .i64 B] 30)).drew (w.heap.size+1) 30 #[.int .i64 V0, .int .i64 B]:=by
   have h:=Blk.new (w.alloc (.cells #[.int .i64 0, .int .i64 0] 30)) 30 #[.int .i64 V0, .int .i64 B]
   rw [show (w.alloc (.cells #[.int .i64 0, .int .i64 0] 30)).heap.size=w.heap.size+1 by simp] at h
   exact h.drew
  have F:Below w.heap.size w ((w.alloc (.cells #[.int .i64 0, .int .i64 0] 30)).alloc (.cells #[.int .i64 V0, .int .i64 B] 30)).drew:=(((Below.refl _ w).alloc (Nat.le_refl _) _).alloc (by simp) _).drew
  have Nw:w.heap.size+1+1≤w3.heap.size:=by have:=E.size;simpa using this
  have U:=Z9 ((b0.later E).later (zbc w3))
  have c:=Z9 ((b1.later E).later (zbc w3))
  have R:=Z9 ((F.trans (E.mono F.size)).trans ((zbc w3).mono (by omega)))
  have Hw:=Z9 (zdo w3)
  have X:=Z9 (zcm w3)
  have N:=Z9 (zez w3)
  have Z:=run_make_row' (P:=Tryz.prog) 51 104 (.int .i16 0) 2 Tryz.underlying51 zot rfl .i64 .i64 0 (by omega) (by omega) (laidW w3)
  change (Instr.makeSlice 51 (.int .i64 0) (.int .i64 0)).run Tryz.prog _=_ at Z
  clear b0 b1 F E Q z u o EC EB DZ
  go_wp2_with (first
   | (refine wpList_store_mid rfl 196 (.tmp 9) (.tmp 82) (by rfl) w3.heap.size 0 Dlt.szA (by rfl) (by rfl) X.out V.out zjf ?_;change wpList _ _ _ _ _ (laidW w3);generalize laidW w3=y at *; generalize w3.heap.size=gt at *; clear x X V)
   | fail)
  have Y:Hid (Dlt.headS bs=(V0,B)):=Z9 (by unfold Dlt.headS;rw [W.out,a.out,t.out,H])
  have qX:Hid (Dlt.valid V0 B=true):=Z9 (by have h:=m.out;rw [Y.out] at h;exact h)
  generalize hr:y.heap.size=r at *
  have YO:w.heap.size+1+1≤r:=by have:=N.out;omega
  have iE:=Z9 N.out
  clear Z H
  go_loopw [86] (fun q wr=>q = .int .i64 0∧Blk wr w.heap.size 30 #[.int .i64 0, .int .i64 0] ∧
   Blk wr (w.heap.size+1) 30 #[.int .i64 V0, .int .i64 B]∧Below w.heap.size w wr)
   (fun q _=>0)
  case atStart=>exact ⟨rfl,U.out.alloc _,c.out.alloc _,R.out.alloc (by omega) _⟩
  case round =>
   obtain ⟨rfl,D,G,hb⟩:=hrel
   clear U c Hw R
   have j:=Z9 (show Dlt.headS bs=(V0,B) from Y.out)
   have HB:=Z9 hb
   have c0:=G.at 0 _ rfl
   have c1:=G.at 1 _ rfl
   have n:=D.at 0 _ rfl
   have d1:=D.at 1 _ rfl
   have f0:=D.frozen 0
   have f1:=D.frozen 1
   clear D G hb
   go_wp2
   go_region
   go_wp2
   refine bodyPost_ret (v := .tuple #[.slice (some ⟨r,0,none⟩) 0 0, .agg #[.int .i64 V0, .int .i64 B], .int .u8 0]) (by simp [results,Tryz.results32,go_sem,n,d1]) rfl ?_
   refine ⟨some ⟨r,0,none⟩,0,by rw [j.out];rfl,?_,?_⟩
   · exact IntsAt.nil
   · exact ((HB.out.setCell (by simp) _).setCell (by simp) _).drew
def Dlt.rowK (s:Int×Int) (zs:List Int) (k:Nat):List Value:=(List.range (4+(k+1) / 2)).map fun j=>Value.int .u8 (Dlt.packAt s zs k j)
end
section
open Go.RowKit
def Dlt.encR (v i x:Int):Int×Int×Int×Int:=if Dlt.valid v i=true then (Dlt.code v i x,Dlt.nextV v i (Dlt.code v i x),Dlt.nextI i (Dlt.code v i x),0) else (0,0,0,2)
def Dlt.decR (v i c:Int):Int×Int×Int×Int:=if Dlt.valid v i=true then (if c≤15 then (Dlt.nextV v i c,Dlt.nextV v i c,Dlt.nextI i c,0) else (0,0,0,3)) else (0,0,0,2)
def Dlt.packR (v i:Int) (zs:List Int):List Int×Int×Int×Int :=
 if Dlt.valid v i=true then (if zs.length≤8000 then (Dlt.packB (v,i) zs,(Dlt.stAt (v,i) zs zs.length).1,(Dlt.stAt (v,i) zs zs.length).2,0) else ([],0,0,4)) else ([],0,0,2)
def Dlt.unpR (bs:List Int) (n:Int):List Int×Int×Int×Int :=
 if n<0∨8000<n then ([],0,0,3) else if bs.length<4+(n.toNat+1) / 2 then ([],0,0,6) else
  if Dlt.okB bs n.toNat then (Dlt.unpackL bs n.toNat,(Dlt.dAt (Dlt.headS bs) bs n.toNat).1,(Dlt.dAt (Dlt.headS bs) bs n.toNat).2,0) else ([],0,0,5)
section
variable (v i x:Int) (w:World)
variable (A:Option Addr) (zs:List Int) (cap:Nat)
variable (bs:List Int) (n:Int)
theorem Dlt.unpackL_len (bs:List Int) (n:Nat):(Dlt.unpackL bs n).length=n:=by simp [Dlt.unpackL]
end
end
section
attribute [local go_sem ↓] zab zac
attribute [local go_sem] zaa zad
open Go.RowKit
def DecR (zs:List Int) (er:Int) (w:World) (e:Ending) (w':World):Prop:=∃ (A':Option Addr) (c':Nat),e = .returned (.tuple #[.slice A' zs.length c', .int .u8 er])∧IntsNew w.heap.size w' .i16 A' zs∧Below w.heap.size w w'
theorem zfm (A:Option Addr) (bs:List Int) (cap:Nat) (n:Int) (w:World) (B:IntsAt w w.heap.size .u8 A bs) (hz:Within 0 255 bs) (C:bs.length≤cap) (D:bs.length≤maxLen) :
 Calls Tryz.prog 32 #[.slice A bs.length cap, .int .i64 n] w fun e w' => ∃ (A':Option Addr) (c':Nat),e = .returned (.tuple #[.slice A' (Dlt.unpR bs n).1.length c', .agg #[.int .i64 (Dlt.unpR bs n).2.1, .int .i64 (Dlt.unpR bs n).2.2.1], .int .u8 (Dlt.unpR bs n).2.2.2]) ∧
  IntsNew w.heap.size w' .i16 A' (Dlt.unpR bs n).1∧Below w.heap.size w w':=by
 unfold Dlt.unpR
 by_cases hr:n<0∨8000<n
 · rw [if_pos hr]
   refine (zib n A bs.length cap w hr).mono ?_
   rintro e w' ⟨rfl,hb⟩
   exact ⟨none,0,rfl,IntsNew.nil,hb⟩
 · rw [if_neg hr]
   obtain ⟨m,rfl⟩:=Int.eq_ofNat_of_zero_le (a:=n) (by omega)
   rw [Int.toNat_natCast]
   by_cases hs:bs.length<4+(m+1) / 2
   · rw [if_pos hs]
     refine (zic m A bs.length cap w (by omega) hs).mono ?_
     rintro e w' ⟨rfl,hb⟩
     exact ⟨none,0,rfl,IntsNew.nil,hb⟩
   · rw [if_neg hs]
     by_cases hk:Dlt.okB bs m
     · rw [if_pos hk]
       rcases Nat.eq_zero_or_pos m with h0|h0
       · subst h0
         refine (zjx A bs cap w B hz hk C).mono ?_
         rintro e w' ⟨A',c',rfl,h,hb⟩
         exact ⟨A',c',rfl,⟨h,fun h0=>absurd h0 (by simp [Dlt.unpackL])⟩,hb⟩
       · refine (zmy m A bs cap w (by omega) h0 B hz hk C).mono ?_
         rintro e w' ⟨A',c',rfl,h⟩
         exact ⟨A',c',by rw [Dlt.unpackL_len],h⟩
     · rw [if_neg hk]
       refine (zgy m A bs cap w (by omega) B hz (by omega) hk D).mono ?_
       rintro e w' ⟨rfl,hb⟩
       exact ⟨none,0,rfl,IntsNew.nil,hb⟩
theorem zuh (n:Int) (A:Option Addr) (bs:List Int) (c b:Nat) (w:World) (B:IntsAt w w.heap.size .u8 A bs) (hz:Within 0 255 bs) (E:bs.length≤8000) (hb:Blk w b 5 #[.int .u8 1]):Calls Tryz.prog 122 #[.slice A bs.length c, .int .i64 n, .pointer (some ⟨b,0,none⟩)] w (DecR (bs.map Cmp.fromMuZ) 0 w):=by
 have k1:=Z9 fun (W:World) C=>zdv A bs c W C hz E
 have G:=Z9 B
 have H:=Z9 hb
 have hlt:=hb.lt
 clear B hb hz
 go_enter Tryz.func122,Tryz.ntmps122
 have F:=H.out.at 0 _ rfl
 go_wp2_with fail
 refine (k1.out _ G.out).mono ?_
 rintro e w1 ⟨A1,rfl,D,I⟩
 clear F
 go_wp2_with fail
 exact bodyPost_ret (v := .tuple #[.slice A1 bs.length bs.length, .int .u8 0]) (by simp [results,Tryz.results122,go_sem]) rfl ⟨A1,bs.length,by rw [List.length_map],D,I⟩
theorem zyh (n:Int) (A:Option Addr) (bs:List Int) (c b:Nat) (w:World) (B:IntsAt w w.heap.size .u8 A bs) (hz:Within 0 255 bs) (E:bs.length≤8000) (hb:Blk w b 5 #[.int .u8 2]):Calls Tryz.prog 122 #[.slice A bs.length c, .int .i64 n, .pointer (some ⟨b,0,none⟩)] w (DecR (bs.map Cmp.fromAZ) 0 w):=by
 have k1:=Z9 fun (W:World) C=>zfl A bs c W C hz E
 have G:=Z9 B
 have H:=Z9 hb
 have hlt:=hb.lt
 clear B hb hz
 go_enter Tryz.func122,Tryz.ntmps122
 have F:=H.out.at 0 _ rfl
 go_wp2_with fail
 refine (k1.out _ G.out).mono ?_
 rintro e w1 ⟨A1,rfl,D,I⟩
 clear F
 go_wp2_with fail
 exact bodyPost_ret (v := .tuple #[.slice A1 bs.length bs.length, .int .u8 0]) (by simp [results,Tryz.results122,go_sem]) rfl ⟨A1,bs.length,by rw [List.length_map],D,I⟩
theorem zql (n:Int) (A:Option Addr) (bs:List Int) (c:Nat) (w:World) (C:IntsAt w w.heap.size .u8 A bs) (hz:Within 0 255 bs) (hc:bs.length≤c) (hm:bs.length≤maxLen):Calls Tryz.prog 84 #[.slice A bs.length c, .int .i64 n] w (DecR (Dlt.unpR bs n).1 (Dlt.unpR bs n).2.2.2 w):=by
 have k1:=Z9 fun (W:World) E=>zfm A bs c n W E hz hc hm
 generalize Dlt.unpR bs n=R at *
 obtain ⟨K,J,I,H⟩:=R
 have F:=Z9 C
 clear C hz
 go_enter Tryz.func84,Tryz.ntmps84
 go_wp2_with fail
 refine (k1.out _ F.out).mono ?_
 rintro e w1 ⟨A1,c1,rfl,B,D⟩
 have G:=Z9 B
 have U:=Z9 D
 clear B D
 go_wp2_with fail
 go_ret2
 exact ⟨A1,c1,rfl,G.out.push _,Bel.push U.out _⟩
end
section
open Go.RowKit
theorem zhi (v i:Int) (A:Option Addr) (zs:List Int) (cap:Nat) (w:World) (hv:Dlt.valid v i=true) (hA:IntsAt w w.heap.size .i16 A zs) (hz:Within (-32768) 32767 zs) (h8:zs.length≤8000) (h0:0<zs.length) :
 Calls Tryz.prog 30 #[.agg #[.int .i64 v, .int .i64 i], .slice A zs.length cap] w fun e w' => ∃ (A':Option Addr) (c':Nat),e = .returned (.tuple #[.slice A' (4+(zs.length+1) / 2) c', .agg #[.int .i64 (Dlt.stAt (v,i) zs zs.length).1, .int .i64 (Dlt.stAt (v,i) zs zs.length).2], .int .u8 0]) ∧
  4+(zs.length+1) / 2≤c'∧IntsNew w.heap.size w' .u8 A' (Dlt.packB (v,i) zs)∧Below w.heap.size w w':=by
 have Wg:=zkk
 have Px:=Z9 zgx
 obtain ⟨N,hN⟩:=nm9 (4+(zs.length+1) / 2)
 have E9:5≤N:=by omega
 have PR:N≤4004:=by omega
 have U:=Z9 hN
 clear hN
 obtain ⟨W0,L⟩:=nm9 (((w.alloc (.cells #[.int .i64 v, .int .i64 i] 30)).alloc (.cells #[.int .i64 0, .int .i64 0] 30)).alloc (.cells #[.int .i64 v, .int .i64 i] 30))
 obtain ⟨W1,E⟩:=nm9 (W0.alloc (.cells (madeCells #[.int .u8 0] N) 5))
 have f:W0.heap.size=w.heap.size+1+1+1:=by rw [L];simp
 have Ib:W1.heap.size=w.heap.size+1+1+1+1:=by rw [E];simp [f]
 have B:Blk W1 w.heap.size 30 #[.int .i64 v, .int .i64 i]:=by rw [E,L];exact ((((Blk.new w _ _).alloc _).alloc _).alloc _)
 have C:Blk W1 (w.heap.size+1) 30 #[.int .i64 0, .int .i64 0]:=by
  have h:=Blk.new (w.alloc (.cells #[.int .i64 v, .int .i64 i] 30)) 30 #[.int .i64 0, .int .i64 0]
  rw [show (w.alloc (.cells #[.int .i64 v, .int .i64 i] 30)).heap.size=w.heap.size+1 by simp] at h
  rw [E,L];exact ((h.alloc _).alloc _)
 have R:W1.rowIs (w.heap.size+1+1+1) 5 N (fun _ => .int .u8 0):=by rw [E,← f];exact World.rowIs_made W0 _ _ _
 have Ew:Below w.heap.size w W1:=by
  rw [E,L];exact ((((Below.refl _ w).alloc (Nat.le_refl _) _).alloc (by simp) _).alloc (by simp;omega) _).alloc (by simp;omega) _
 have Bm:=run_make_row' (P:=Tryz.prog) 69 5 (.int .u8 0) 1 Tryz.underlying69 zxb rfl .i64 .i64 N (by omega) (by omega) W0
 rw [← E,f,L] at Bm
 have c0:=B.at 0 _ rfl
 have c1:=B.at 1 _ rfl
 have r0:=R.cell (i:=0) (by omega)
 have r1:=R.cell (i:=1) (by omega)
 have r2:=R.cell (i:=2) (by omega)
 have q0:=R.frozen 0
 have q1:=R.frozen 1
 have q2:=R.frozen 2
 have F:=Z9 B
 have M:=Z9 C
 have HR:=Z9 R
 have Yu:=Z9 Ew
 have qZ:=Z9 Ib
 clear E f L Ib B C R Ew
 have Ct:(0:Int)<(N:Int):=by omega
 have Cn:(1:Int)<(N:Int):=by omega
 have Xd:(2:Int)<(N:Int):=by omega
 go_enter Tryz.func30,Tryz.ntmps30
 go_wp2_with fail
 refine (zhz v i _).mono ?_
 rintro e w' ⟨rfl,rfl⟩
 rw [hv]
 go_wp2_with fail
 refine (zax _ _ h8).mono ?_
 rintro e w' ⟨rfl,rfl⟩
 rw [← U.out]
 go_wp2_with fail
 clear Bm
 go_region
 go_wp2_with fail
 refine (zen _).mono ?_
 rintro e w3 ⟨rfl,D⟩
 have e1:W1.heap.size=w.heap.size+1+1+1+1:=qZ.out
 have Y:(((W1.setCell ⟨w.heap.size+1+1+1,0,none⟩ (.int .u8 (IntKind.u16.wrap v / 256 % 256))).setCell ⟨w.heap.size+1+1+1,1,none⟩ (.int .u8 (IntKind.u16.wrap v % 256))).setCell ⟨w.heap.size+1+1+1,2,none⟩ (.int .u8 (i % 256))).drew.rowIs (w.heap.size+1+1+1) 5 N (fun j => .int .u8 (Dlt.packAt (v,i) zs 0 j)) :=
  (((HR.out.set 0 _).set 1 _).set 2 _).congr fun j t => by
    obtain ⟨g1,g2,g3,g4⟩:=zcl hv
    unfold Dlt.packAt Dlt.part
    rw [IntKind.wrap_u16]
    by_cases h2:j=2
    · subst h2;simp;omega
    · by_cases h1:j=1
      · subst h1;simp
      · by_cases h0:j=0
        · subst h0;simp;omega
        · simp [h0,h1,h2]
 have b0:Blk (((W1.setCell ⟨w.heap.size+1+1+1,0,none⟩ (.int .u8 (IntKind.u16.wrap v / 256 % 256))).setCell ⟨w.heap.size+1+1+1,1,none⟩ (.int .u8 (IntKind.u16.wrap v % 256))).setCell ⟨w.heap.size+1+1+1,2,none⟩ (.int .u8 (i % 256))).drew w.heap.size 30 #[.int .i64 v, .int .i64 i] :=
  (((F.out.far (by simp;omega) _).far (by simp;omega) _).far (by simp;omega) _).drew
 have b1:Blk (((W1.setCell ⟨w.heap.size+1+1+1,0,none⟩ (.int .u8 (IntKind.u16.wrap v / 256 % 256))).setCell ⟨w.heap.size+1+1+1,1,none⟩ (.int .u8 (IntKind.u16.wrap v % 256))).setCell ⟨w.heap.size+1+1+1,2,none⟩ (.int .u8 (i % 256))).drew (w.heap.size+1) 30 #[.int .i64 0, .int .i64 0] :=
  (((M.out.far (by simp) _).far (by simp) _).far (by simp) _).drew
 have y:Below w.heap.size w (((W1.setCell ⟨w.heap.size+1+1+1,0,none⟩ (.int .u8 (IntKind.u16.wrap v / 256 % 256))).setCell ⟨w.heap.size+1+1+1,1,none⟩ (.int .u8 (IntKind.u16.wrap v % 256))).setCell ⟨w.heap.size+1+1+1,2,none⟩ (.int .u8 (i % 256))).drew :=
  (((Yu.out.setCell (by simp;omega) _).setCell (by simp;omega) _).setCell (by simp;omega) _).drew
 have Nw:w.heap.size+1+1+1+1≤w3.heap.size:=by have:=D.size;simpa [e1,World.setCell] using this
 have sB:=Z9 ((b0.later D).later (zbc w3))
 have rZ:=Z9 ((b1.later D).later (zbc w3))
 have TB:=Z9 (zbk (zbk Y D Y.lt) (zbc w3) (zbk Y D Y.lt).lt)
 have rS:=Z9 ((y.trans (D.mono y.size)).trans ((zbc w3).mono (by omega)))
 have K:=Z9 (zdo w3)
 have HT:=Z9 (zcm w3)
 clear Y b0 b1 y D F M HR Yu qZ c0 c1 r0 r1 r2 q0 q1 q2 e1
 go_wp2_with (first
  | (refine wpList_store_mid rfl 196 (.tmp 10) (.tmp 48) (by rfl) w3.heap.size 0 Dlt.szA (by rfl) (by rfl) HT.out Px.out zjf ?_;change wpList _ _ _ _ _ (laidW w3);generalize laidW w3=W4 at *; generalize w3.heap.size=u at *; clear Wg HT Px)
  | fail)
 go_loopw [51] (fun q wr => ∃ k:Nat,k≤zs.length∧q = .int .i64 k∧Blk wr w.heap.size 30 #[.int .i64 (Dlt.stAt (v,i) zs k).1, .int .i64 (Dlt.stAt (v,i) zs k).2] ∧
  Blk wr (w.heap.size+1) 30 #[.int .i64 0, .int .i64 0]∧wr.rowIs (w.heap.size+1+1+1) 5 N (fun j => .int .u8 (Dlt.packAt (v,i) zs k j))∧StepsAt wr u∧Below w.heap.size w wr)
  (fun q _=>zs.length-(intOf q).toNat)
 case atStart=>exact ⟨0,Nat.zero_le _,rfl,sB.out,rZ.out,TB.out,K.out,rS.out⟩
 case round =>
  obtain ⟨k,hk,rfl,B,C,R,a,hb⟩:=hrel
  clear sB rZ TB K rS
  have qY:=Z9 (Dlt.stAt_valid (v,i) hv zs k)
  by_cases hlt:k<zs.length
  · obtain ⟨b,off,rfl,Bb,qc⟩:=hA (by omega)
    have Qb:=hz.at hlt
    have Ol:wr.cell? ⟨b,off+k,none⟩=some (.int .i16 (zs.getD k 0)):=(hb.cell (p:=⟨b,off+k,none⟩) Bb).trans (qc k hlt)
    have HS:=Z9 (Dlt.stAt_succ (v,i) zs k hlt)
    have x:Dlt.code (Dlt.stAt (v,i) zs k).1 (Dlt.stAt (v,i) zs k).2 (zs.getD k 0)=Dlt.codeAt (v,i) zs k:=rfl
    obtain ⟨k0,k1⟩:=Dlt.codeAt_bd (v,i) zs k
    generalize De:Dlt.codeAt (v,i) zs k=c at *
    have Yt:=Z9 De
    generalize zs.getD k 0=z at Ol Qb x
    have HC:=Z9 x
    obtain ⟨z0,z1⟩:=Qb
    clear qc x De
    generalize O:(Dlt.stAt (v,i) zs k).1=V at *
    generalize T:(Dlt.stAt (v,i) zs k).2=I at *
    have HV:=Z9 O
    have HI:=Z9 T
    have c0:=B.at 0 _ rfl
    have c1:=B.at 1 _ rfl
    have F:=Z9 B
    have M:=Z9 C
    have HR:=Z9 R
    have K:=Z9 a
    have X:=Z9 hb
    have Qj:(0:Int)≤(k:Int):=by omega
    have Jq:(k:Int)<(zs.length:Int):=by omega
    clear B C R a hb O T
    go_wp2
    go_still_tail 6,(by kernel_rfl)
    change wpList _ _ _ _ _ wr.drew
    go_wp2_with fail
    refine (zmc u V I z wr.drew K.out qY.out z0 z1).mono ?_
    rintro e w5 ⟨rfl,G⟩
    rw [HC.out]
    have Z:=Z9 (F.out.drew.later G)
    have rY:=Z9 (M.out.drew.later G)
    have l:=Z9 (zbk HR.out.drew G HR.out.lt)
    have o:=Z9 (StepsAt.below (w:=wr.drew) K.out G)
    have n:=Z9 (X.out.drew.trans (G.mono X.out.size))
    clear G F M HR K X c0 c1 Ol
    have c0:=Z.out.at 0 _ rfl
    have c1:=Z.out.at 1 _ rfl
    go_wp2_with fail
    refine (zdn u V I c _ o.out qY.out k0 k1).mono ?_
    rintro e w6 ⟨rfl,J⟩
    have H:=Z9 (Z.out.later J)
    have Hx:=Z9 (rY.out.later J)
    have d:=Z9 (zbk l.out J l.out.lt)
    have Tu:=Z9 (o.out.below J)
    have Tw:=Z9 (n.out.trans (J.mono n.out.size))
    clear J Z rY l o n c0 c1
    have c0:=H.out.at 0 _ rfl
    have c1:=H.out.at 1 _ rfl
    have f0:=H.out.frozen 0
    have f1:=H.out.frozen 1
    have hM:k / 2+4<N:=by rw [U.out];omega
    have F3:(k:Int) / 2<((N-4:Nat):Int):=by omega
    have F4:(0:Int)≤(k:Int) / 2:=by omega
    have tN:w6.cell? ⟨w.heap.size+1+1+1,4+k / 2,none⟩=some (.int .u8 (Dlt.part (v,i) zs k (k / 2))):=by rw [d.out.cell (by omega),Dlt.packAt_body]
    have MY:=d.out.frozen (4+k / 2)
    have Iw:w.heap.size≠w.heap.size+1+1+1:=by omega
    have Id:w.heap.size+1+1+1≠w.heap.size:=by omega
    by_cases Q:k % 2=0
    · have g:=Dlt.part_even (v,i) zs k Q
      rw [g.1] at tN
      have W:=Z9 g.2
      have Wq:(k:Int) % 2=0:=by omega
      clear g Q
      go_wp2
      go_roundw
      case rel =>
       have h:=zgd Nw H.out Hx.out d.out Tu.out Tw.out (c*16) (by rw [W.out,Yt.out];omega) HS.out
       exact ⟨k+1,by omega,by go_num,h⟩
      case measure=>simp [intOf];omega
    · have m:=Dlt.part_odd (v,i) zs k (by omega)
      obtain ⟨p0,p1⟩:=Dlt.codeAt_bd (v,i) zs (k-1)
      rw [m.1] at tN
      have W:=Z9 m.2
      generalize Dlt.codeAt (v,i) zs (k-1)=cp at *
      have Wq:(k:Int) % 2=1:=by omega
      clear m Q
      go_wp2
      go_roundw
      case rel =>
       have h:=zgd Nw H.out Hx.out d.out Tu.out Tw.out (16*cp+c) (by rw [W.out,Yt.out]) HS.out
       exact ⟨k+1,by omega,by go_num,h⟩
      case measure=>simp [intOf];omega
  · obtain rfl:k=zs.length:=by omega
    clear hA hz
    have F:=Z9 B
    have M:=Z9 C
    have HR:=Z9 R
    have X:=Z9 hb
    generalize O:(Dlt.stAt (v,i) zs zs.length).1=V at *
    generalize T:(Dlt.stAt (v,i) zs zs.length).2=I at *
    have HV:=Z9 O
    have HI:=Z9 T
    have c0:=B.at 0 _ rfl
    have c1:=B.at 1 _ rfl
    have d0:=C.at 0 _ rfl
    have d1:=C.at 1 _ rfl
    have f0:=C.frozen 0
    have f1:=C.frozen 1
    clear B C R a hb O T
    go_wp2
    go_region
    go_wp2
    refine bodyPost_ret (v := .tuple #[.slice (some ⟨w.heap.size+1+1+1,0,none⟩) N N, .agg #[.int .i64 V, .int .i64 I], .int .u8 0]) (by simp [results,Tryz.results30,go_sem,d0,d1]) rfl ?_
    have Ru:=Dlt.packAt_bd (v,i) hv zs zs.length
    refine ⟨some ⟨w.heap.size+1+1+1,0,none⟩,N,by rw [HV.out,HI.out,U.out],by rw [U.out];omega,?_,?_⟩
    · refine ⟨?_,fun _ b' o' e=>by cases e;omega⟩
      refine IntsAt.of_row (((HR.out.setOther (by simp;omega) _).setOther (by simp;omega) _).drew) (by rw [Dlt.packB_len,U.out];omega) fun j t => ?_
      rw [Dlt.packB_len] at t
      rw [Dlt.packB_at _ _ _ t]
    · exact ((X.out.setCell (by simp) _).setCell (by simp) _).drew
end
end Go.Proofs.YtbcgnddpkiemoaaGreat
