/- Layer 32: what the reference's decoders make is new. -/
import Derived.Test.YtahbecinkciahaaGreatSs9Q
import Derived.Test.YtahbecinkciahaaGreatSbSamSQ
import Derived.Test.YtahbecinkciahaaGreatSbDecsQ
import Derived.Test.YtahbecinkciahaaGreatJtSmallQ
import Derived.Test.YtahbecinkciahaaGreatSbSoundsQ
import Derived.Test.YtahbecinkciahaaGreatJtValidQ
import Derived.LoopN
import Derived.Test.YtahbecinkciahaaGreatJtPnQ
import Derived.Deep.RegionHeld3
import Derived.BigQuiet
import Derived.Deep.QuietTactic
import Derived.Test.YtahbecinkciahaaGreatEvRefHearQ
import Derived.RegionTactic
set_option linter.unusedVariables false
set_option linter.unusedSimpArgs false
set_option maxRecDepth 100000
set_option maxHeartbeats 12800000
namespace Go.Proofs.YtahbecinkciahaaGreat
attribute [local go_sem ↓] zae zaf
attribute [local go_sem] zad zag
open Go.RowKit
theorem zkc (A:Option Addr) (zs:List Int) (cap:Nat) (w:World) (hA:IntsAt w w.heap.size .u8 A zs) (hz:Within (0) 255 zs) (h8:zs.length≤8000) :
 Calls Tryz.prog 90 #[.int .u8 1, .slice A zs.length cap] w fun e w' => ∃ (A':Option Addr) (c':Nat),e = .returned (.tuple #[.slice A' zs.length c', .int .u8 0]) ∧
  IntsNew w.heap.size w' .i16 A' (zs.map Cmp.fromMuZ)∧Below w.heap.size w w':=by
 go_enter Tryz.func90,Tryz.ntmps90
 go_wp2
 go_loopw [6,7] (fun v i wr => ∃ (k:Nat) (A':Option Addr) (c':Nat) (xs:List Value),k≤zs.length∧i = .int .i64 k∧v = .slice A' k c'∧Owns wr w.heap.size 93 1 A' k c' xs∧Hid (xs=((zs.take k).map Cmp.fromMuZ).map (Value.int .i16))∧Below w.heap.size w wr)
  (fun _ i _=>zs.length-(intOf i).toNat)
 case atStart=>exact ⟨0,none,0,[],Nat.zero_le _,rfl,rfl,Owns.nil,rfl,Below.refl _ _⟩
 case round =>
  obtain ⟨k,A',c',xs,hk,rfl,rfl,qo,HX,hb⟩:=hrel
  by_cases hlt:k<zs.length
  · obtain ⟨b,off,rfl,hbB,qc⟩:=hA (by omega)
    have hzk:=hz.at hlt
    have hck:wr.cell? ⟨b,off+k,none⟩=some (.int .u8 (zs.getD k 0)):=(hb.cell (p:=⟨b,off+k,none⟩) hbB).trans (qc k hlt)
    have hbs:=hb.size
    clear qc
    generalize hzz:zs.getD k 0=z at hck hzk
    have HZ:=H9 hzz
    clear hzz
    obtain ⟨hz1',hz2'⟩:=hzk
    have hi0:(0:Int)≤(k:Int):=by omega
    have hi1:(k:Int)<(zs.length:Int):=by omega
    have HO:=H9 qo
    clear qo
    go_wp2_with (first
     | (go_at_call 134;refine (zqk _ _ (by omega) (by omega)).mono ?_;rintro e w' ⟨rfl,rfl⟩)
     | (at_builtin;refine zak rfl _ _ 66 rfl w.heap.size 93 1 2 (.int .i16 0) Tryz.underlying66 zhk rfl (by decide) A' k c' xs rfl HO.out [.int .i16 (Cmp.fromMuZ z)] rfl (by simp [Value.oneCell']) rfl (by unfold maxLen;omega) (by omega) (by omega) ?_;intro A2 c2 w2 hown2 hg2 hlt2))
    go_roundw
    case rel =>
     refine ⟨k+1,A2,c2,_,by omega,by go_num,rfl,hown2,?_,zca hb HO.out hg2 (by omega) (Nat.le_refl _)⟩
     rw [HX.out,zdw _ _ _ hlt,HZ.out,List.map_append]
     rfl
    case measure=>simp [intOf];omega
  · obtain rfl:k=zs.length:=by omega
    go_wp2
    go_ret2
    refine ⟨A',c',rfl,?_,hb⟩
    rw [HX.out,List.take_length] at qo
    exact ⟨qo.ints,fun _ b o e=>(qo.block b (by rw [e];rfl)).1⟩
theorem znl (A:Option Addr) (zs:List Int) (cap:Nat) (w:World) (hA:IntsAt w w.heap.size .u8 A zs) (hz:Within (0) 255 zs) (h8:zs.length≤8000) :
 Calls Tryz.prog 90 #[.int .u8 2, .slice A zs.length cap] w fun e w' => ∃ (A':Option Addr) (c':Nat),e = .returned (.tuple #[.slice A' zs.length c', .int .u8 0]) ∧
  IntsNew w.heap.size w' .i16 A' (zs.map Cmp.fromAZ)∧Below w.heap.size w w':=by
 go_enter Tryz.func90,Tryz.ntmps90
 go_wp2
 go_loopw [6,7] (fun v i wr => ∃ (k:Nat) (A':Option Addr) (c':Nat) (xs:List Value),k≤zs.length∧i = .int .i64 k∧v = .slice A' k c'∧Owns wr w.heap.size 93 1 A' k c' xs∧Hid (xs=((zs.take k).map Cmp.fromAZ).map (Value.int .i16))∧Below w.heap.size w wr)
  (fun _ i _=>zs.length-(intOf i).toNat)
 case atStart=>exact ⟨0,none,0,[],Nat.zero_le _,rfl,rfl,Owns.nil,rfl,Below.refl _ _⟩
 case round =>
  obtain ⟨k,A',c',xs,hk,rfl,rfl,qo,HX,hb⟩:=hrel
  by_cases hlt:k<zs.length
  · obtain ⟨b,off,rfl,hbB,qc⟩:=hA (by omega)
    have hzk:=hz.at hlt
    have hck:wr.cell? ⟨b,off+k,none⟩=some (.int .u8 (zs.getD k 0)):=(hb.cell (p:=⟨b,off+k,none⟩) hbB).trans (qc k hlt)
    have hbs:=hb.size
    clear qc
    generalize hzz:zs.getD k 0=z at hck hzk
    have HZ:=H9 hzz
    clear hzz
    obtain ⟨hz1',hz2'⟩:=hzk
    have hi0:(0:Int)≤(k:Int):=by omega
    have hi1:(k:Int)<(zs.length:Int):=by omega
    have HO:=H9 qo
    clear qo
    go_wp2_with (first
     | (go_at_call 135;refine (zta _ _ (by omega) (by omega)).mono ?_;rintro e w' ⟨rfl,rfl⟩)
     | (at_builtin;refine zak rfl _ _ 66 rfl w.heap.size 93 1 2 (.int .i16 0) Tryz.underlying66 zhk rfl (by decide) A' k c' xs rfl HO.out [.int .i16 (Cmp.fromAZ z)] rfl (by simp [Value.oneCell']) rfl (by unfold maxLen;omega) (by omega) (by omega) ?_;intro A2 c2 w2 hown2 hg2 hlt2))
    go_roundw
    case rel =>
     refine ⟨k+1,A2,c2,_,by omega,by go_num,rfl,hown2,?_,zca hb HO.out hg2 (by omega) (Nat.le_refl _)⟩
     rw [HX.out,zdw _ _ _ hlt,HZ.out,List.map_append]
     rfl
    case measure=>simp [intOf];omega
  · obtain rfl:k=zs.length:=by omega
    go_wp2
    go_ret2
    refine ⟨A',c',rfl,?_,hb⟩
    rw [HX.out,List.take_length] at qo
    exact ⟨qo.ints,fun _ b o e=>(qo.block b (by rw [e];rfl)).1⟩
theorem zep (n:Int) (A:Option Addr) (zs:List Int) (cap:Nat) (w:World) (hA:IntsAt w w.heap.size .u8 A zs) (hz:Within (0) 255 zs) :
 Calls Tryz.prog 90 #[.int .u8 n, .slice A zs.length cap] w fun e w' => ∃ (A':Option Addr) (c':Nat),e = .returned (.tuple #[.slice A' (unpackOut n zs).length c', .int .u8 (packErr n zs.length)]) ∧
  IntsNew w.heap.size w' .i16 A' (unpackOut n zs)∧Below w.heap.size w w':=by
 by_cases h1:n=1
 · subst h1
   by_cases h8:zs.length≤8000
   · refine (zkc A zs cap w hA hz h8).mono ?_
     rintro e w' ⟨A',c',rfl,h,hb⟩
     have e1:unpackOut 1 zs=zs.map Cmp.fromMuZ:=by unfold unpackOut;rw [if_pos ⟨rfl,h8⟩]
     have e2:packErr 1 zs.length=0:=by unfold packErr;rw [if_neg (by simp),if_neg (by omega)]
     rw [e1,e2,List.length_map]
     exact ⟨A',c',rfl,h,hb⟩
   · refine (zeq 1 A zs.length cap w (.inl rfl) (by omega)).mono ?_
     rintro e w' ⟨rfl,rfl⟩
     have e1:unpackOut 1 zs=[]:=by unfold unpackOut;rw [if_neg (by omega),if_neg (by omega)]
     have e2:packErr 1 zs.length=4:=by unfold packErr;rw [if_neg (by simp),if_pos (by omega)]
     rw [e1,e2]
     exact ⟨none,0,rfl,IntsNew.nil,Below.refl _ _⟩
 · by_cases h2:n=2
   · subst h2
     by_cases h8:zs.length≤8000
     · refine (znl A zs cap w hA hz h8).mono ?_
       rintro e w' ⟨A',c',rfl,h,hb⟩
       have e1:unpackOut 2 zs=zs.map Cmp.fromAZ:=by unfold unpackOut;rw [if_neg (by omega),if_pos ⟨rfl,h8⟩]
       have e2:packErr 2 zs.length=0:=by unfold packErr;rw [if_neg (by simp),if_neg (by omega)]
       rw [e1,e2,List.length_map]
       exact ⟨A',c',rfl,h,hb⟩
     · refine (zeq 2 A zs.length cap w (.inr rfl) (by omega)).mono ?_
       rintro e w' ⟨rfl,rfl⟩
       have e1:unpackOut 2 zs=[]:=by unfold unpackOut;rw [if_neg (by omega),if_neg (by omega)]
       have e2:packErr 2 zs.length=4:=by unfold packErr;rw [if_neg (by simp),if_pos (by omega)]
       rw [e1,e2]
       exact ⟨none,0,rfl,IntsNew.nil,Below.refl _ _⟩
   · obtain ⟨hn1,hn2,hn3,hn4⟩:=zql n h1 h2
     refine (znv n A zs.length cap w hn3 hn4).mono ?_
     rintro e w' ⟨rfl,rfl⟩
     have e1:unpackOut n zs=[]:=by unfold unpackOut;rw [if_neg (by omega),if_neg (by omega)]
     have e2:packErr n zs.length=2:=by unfold packErr;rw [if_pos ⟨h1,h2⟩]
     rw [e1,e2]
     exact ⟨none,0,rfl,IntsNew.nil,Below.refl _ _⟩
theorem zkd (n:Nat) (A:Option Addr) (bs:List Int) (cap:Nat) (w:World) (hn:n≤8000) (hA:IntsAt w w.heap.size .u8 A bs) (hz:Within 0 255 bs) (hok:Dlt.okB bs n) :
 Calls Tryz.prog 89 #[.slice A bs.length cap, .int .i64 n] w fun e w' => ∃ (A':Option Addr) (c':Nat),e = .returned (.tuple #[.slice A' n c', .agg #[.int .i64 (Dlt.dAt (Dlt.headS bs) bs n).1, .int .i64 (Dlt.dAt (Dlt.headS bs) bs n).2], .int .u8 0]) ∧
  IntsNew w.heap.size w' .i16 A' (Dlt.unpackL bs n)∧Below w.heap.size w w':=by
 have HVAL:=H9 (Dlt.headS_valid bs n hok hz)
 obtain ⟨ok1,ok2,ok3,ok4⟩:=hok
 obtain ⟨b,off,rfl,hbB,qc⟩:=hA (by omega)
 have c0:=qc 0 (by omega)
 have c1:=qc 1 (by omega)
 have c2:=qc 2 (by omega)
 have c3:=qc 3 (by omega)
 have cl:=qc (bs.length-1) (by omega)
 obtain ⟨l0,l1⟩:=hz.at (i:=bs.length-1) (by omega)
 obtain ⟨a0,a1⟩:=hz.at (i:=0) (by omega)
 obtain ⟨b0,b1⟩:=hz.at (i:=1) (by omega)
 obtain ⟨g0,g1⟩:=hz.at (i:=2) (by omega)
 have hb':b≠w.heap.size:=by omega
 have hb'':b≠w.heap.size+1:=by omega
 generalize hx0:bs.getD 0 0=x0 at *
 generalize hx1:bs.getD 1 0=x1 at *
 generalize hx2:bs.getD 2 0=x2 at *
 generalize hx3:bs.getD 3 0=x3 at *
 have HX3:=H9 (show bs.getD 3 0=0 by rw [hx3,ok3])
 subst ok3
 generalize bs.getD (bs.length-1) 0=xl at *
 have HX0:=H9 hx0
 have HX1:=H9 hx1
 have HX2:=H9 hx2
 have HCELL:=H9 qc
 have HZ:=H9 hz
 generalize hM:bs.length=M at *
 have HMM:=H9 hM
 clear hA hz qc hx0 hx1 hx2 hM
 have hM4:(4:Int)≤(M:Int):=by omega
 have hM2:(2:Int)<(M:Int):=by omega
 have hM3:(3:Int)<(M:Int):=by omega
 have hM1:(1:Int)<(M:Int):=by omega
 have hM0:(0:Int)<(M:Int):=by omega
 have hl0:(0:Int)≤(M:Int)-1:=by omega
 have hl1:(M:Int)-1<(M:Int):=by omega
 have hl2:((M:Int)-1).toNat=M-1:=by omega
 have cc0:(w.alloc (.cells #[.int .i64 0, .int .i64 0] 24)).cell? ⟨b,off,none⟩=some (.int .u8 x0):=(World.cell?_alloc_lt w _ _ hbB).trans c0
 have cc1:(w.alloc (.cells #[.int .i64 0, .int .i64 0] 24)).cell? ⟨b,off+1,none⟩=some (.int .u8 x1):=(World.cell?_alloc_lt w _ _ hbB).trans c1
 have cc2:(w.alloc (.cells #[.int .i64 0, .int .i64 0] 24)).cell? ⟨b,off+2,none⟩=some (.int .u8 x2):=(World.cell?_alloc_lt w _ _ hbB).trans c2
 have cc3:(w.alloc (.cells #[.int .i64 0, .int .i64 0] 24)).cell? ⟨b,off+3,none⟩=some (.int .u8 0):=(World.cell?_alloc_lt w _ _ hbB).trans c3
 have ccl:(w.alloc (.cells #[.int .i64 0, .int .i64 0] 24)).cell? ⟨b,off+(M-1),none⟩=some (.int .u8 xl):=(World.cell?_alloc_lt w _ _ hbB).trans cl
 have cd0:((w.alloc (.cells #[.int .i64 0, .int .i64 0] 24)).alloc (.cells #[.int .i64 0, .int .i64 0] 24)).cell? ⟨b,off,none⟩=some (.int .u8 x0):=(World.cell?_alloc_lt _ _ _ (by simp;omega)).trans ((World.cell?_alloc_lt w _ _ hbB).trans c0)
 have cd1:((w.alloc (.cells #[.int .i64 0, .int .i64 0] 24)).alloc (.cells #[.int .i64 0, .int .i64 0] 24)).cell? ⟨b,off+1,none⟩=some (.int .u8 x1):=(World.cell?_alloc_lt _ _ _ (by simp;omega)).trans ((World.cell?_alloc_lt w _ _ hbB).trans c1)
 have cd2:((w.alloc (.cells #[.int .i64 0, .int .i64 0] 24)).alloc (.cells #[.int .i64 0, .int .i64 0] 24)).cell? ⟨b,off+2,none⟩=some (.int .u8 x2):=(World.cell?_alloc_lt _ _ _ (by simp;omega)).trans ((World.cell?_alloc_lt w _ _ hbB).trans c2)
 clear c0 c1 c2 c3 cl
 obtain ⟨N,hN⟩:∃ N,N=4+(n+1) / 2:=⟨_,rfl⟩
 obtain rfl:M=N:=by omega
 have HS:=H9 hN.symm
 have hsI:(4:Int)+((n:Int)+1) / 2=(M:Int):=by omega
 have h5':M≤4005:=by omega
 clear hN ok1
 have hpar:(n:Int) % 2=0∨((n:Int) % 2=1∧(xl % 16 != 0)=false):=by
  by_cases h:n % 2=1
  · exact .inr ⟨by omega,by have:=ok4 h;simp [this]⟩
  · exact .inl (by omega)
 clear ok4
 have hword:∃ v0:Int,v0=(256*x0+x1+32768) % 65536-32768∧((256*x0+x1≤32767∧256*x0+x1=v0)∨(32767<256*x0+x1∧256*x0+x1-65536=v0)):=⟨_,rfl,by omega⟩
 obtain ⟨V0,hV0,hword⟩:=hword
 have HH:Hid (Dlt.headS bs=(V0,x2)):=H9 (by unfold Dlt.headS;rw [HX0.out,HX1.out,HX2.out,hV0])
 have HSV0:Hid (Dlt.valid V0 x2=true):=H9 (by have h:=HVAL.out;rw [HH.out] at h;exact h)
 clear hV0
 go_enter Tryz.func89,Tryz.ntmps89
 rcases hpar with hp|⟨hp,hq⟩
 all_goals rcases hword with ⟨hw1,hw2⟩|⟨hw1,hw2⟩
 all_goals
  go_wp2_with fail
  go_quiet (fail)
  go_wp2_with fail
  try rw [hw2]
  go_loopw [9,10] (fun u q wr => ∃ (k:Nat) (A':Option Addr) (c':Nat) (xs:List Value),k≤n∧q = .int .i64 k∧u = .slice A' k c'∧Owns wr (w.heap.size+1+1) 93 1 A' k c' xs∧Hid (xs=(List.range k).map (fun j=>Value.int .i16 (Dlt.dAt (V0,x2) bs (j+1)).1)) ∧
   Blk wr w.heap.size 24 #[.int .i64 0, .int .i64 0]∧Blk wr (w.heap.size+1) 24 #[.int .i64 (Dlt.dAt (V0,x2) bs k).1, .int .i64 (Dlt.dAt (V0,x2) bs k).2]∧Below w.heap.size w wr)
   (fun _ q _=>n-(intOf q).toNat)
  case atStart =>
   refine ⟨0,none,0,[],Nat.zero_le _,rfl,rfl,Owns.nil,H9 rfl,?_,?_,?_⟩
   · exact (Blk.new w _ _).alloc _
   · have h:=Blk.new (w.alloc (.cells #[.int .i64 0, .int .i64 0] 24)) 24 #[.int .i64 V0, .int .i64 x2]
     rw [show (w.alloc (.cells #[.int .i64 0, .int .i64 0] 24)).heap.size=w.heap.size+1 by simp] at h
     exact h
   · exact below_drewN (((Below.refl _ w).alloc (Nat.le_refl _) _).alloc (by simp) _) _
  case round =>
   obtain ⟨k,A',c',xs,hk,rfl,rfl,qo,HX,B0,B1,hb⟩:=hrel
   have HSV:=H9 (Dlt.dAt_valid (V0,x2) HSV0.out bs k)
   have HNX:Hid (Dlt.dAt (V0,x2) bs (k+1)=(Dlt.nextV (Dlt.dAt (V0,x2) bs k).1 (Dlt.dAt (V0,x2) bs k).2 (Dlt.nib bs k),Dlt.nextI (Dlt.dAt (V0,x2) bs k).2 (Dlt.nib bs k))):=H9 rfl
   by_cases hlt:k<n
   · have hM6:4+k / 2<M:=by have:=HS.out;omega
     have hck:wr.cell? ⟨b,off+(4+k / 2),none⟩=some (.int .u8 (bs.getD (4+k / 2) 0)):=(hb.cell (p:=⟨b,off+(4+k / 2),none⟩) hbB).trans (HCELL.out _ hM6)
     have hzk:=HZ.out.at (i:=4+k / 2) (by rw [HMM.out];exact hM6)
     have hnib:Dlt.nib bs k=if k % 2=0 then bs.getD (4+k / 2) 0 / 16 else bs.getD (4+k / 2) 0 % 16:=rfl
     generalize bs.getD (4+k / 2) 0=x at hck hzk hnib
     obtain ⟨z0,z1⟩:=hzk
     generalize hc:Dlt.nib bs k=c at *
     generalize hV:(Dlt.dAt (V0,x2) bs k).1=V at *
     generalize hI:(Dlt.dAt (V0,x2) bs k).2=I at *
     have HC:=H9 hnib
     have c0:=B1.at 0 _ rfl
     have c1:=B1.at 1 _ rfl
     have f0:=B1.frozen 0
     have f1:=B1.frozen 1
     have HB0:=H9 B0
     have HB1:=H9 B1
     have HO:=H9 qo
     have HB:=H9 hb
     have hn0:(0:Int)≤4+(k:Int) / 2:=by omega
     have hn2:4+(k:Int) / 2<(M:Int):=by omega
     have hn3:(4+(k:Int) / 2).toNat=4+k / 2:=by omega
     have hk0:(0:Int)≤(k:Int):=by omega
     have hk1:(k:Int)<(n:Int):=by omega
     clear B0 B1 qo hb hV hI hc hnib
     by_cases hpar:k % 2=0
     · have hpar':(k:Int) % 2=0:=by omega
       have hce:x / 16=c:=by have:=HC.out;rw [if_pos hpar] at this;omega
       have HCE:=H9 hce
       clear hpar hce
       go_wp2_with fail
       refine (zij V I _ _ HSV.out (by omega) (by omega)).mono ?_
       rintro e w6 ⟨rfl,hb6⟩
       rw [HCE.out]
       have HB06:=H9 (HB0.out.later hb6)
       have HB16:=H9 (HB1.out.later hb6)
       have HO6:=H9 (HO.out.below hb6)
       have HBW6:=H9 (HB.out.trans (hb6.mono HB.out.size))
       clear hb6 HB0 HB1 HO HB c0 c1 f0 f1 hck
       have c0:=HB16.out.at 0 _ rfl
       have c1:=HB16.out.at 1 _ rfl
       have f0:=HB16.out.frozen 0
       have f1:=HB16.out.frozen 1
       have hbs2:=HB16.out.lt
       have HO7:Hid (Owns ((w6.setCell ⟨w.heap.size+1,0,none⟩ (.int .i64 (Dlt.nextV V I c))).setCell ⟨w.heap.size+1,1,none⟩ (.int .i64 (Dlt.nextI I c))) (w.heap.size+1+1) 93 1 A' k c' xs) :=
        H9 ((HO6.out.setCell (fun g hg=>by have:=(HO6.out.block g hg).1;simp;omega) _).setCell (fun g hg=>by have:=(HO6.out.block g hg).1;simp;omega) _)
       have HSZ:Hid (((w6.setCell ⟨w.heap.size+1,0,none⟩ (.int .i64 (Dlt.nextV V I c))).setCell ⟨w.heap.size+1,1,none⟩ (.int .i64 (Dlt.nextI I c))).heap.size=w6.heap.size):=H9 (by simp [World.setCell])
       obtain ⟨nv0,nv1⟩:=Dlt.nextV_bd V I c
       go_wp2_with (at_builtin;go_loud (refine zak rfl _ _ 66 rfl (w.heap.size+1+1) 93 1 2 (.int .i16 0) Tryz.underlying66 zho rfl (by decide) A' k c' xs rfl HO7.out [.int .i16 (Dlt.nextV V I c)] rfl (by simp [Value.oneCell']) (by rw [HSZ.out];rfl) (by unfold maxLen;omega) (by omega) (by rw [HSZ.out];omega) ?_);intro A2 c2 w2 hown2 hg2 hlt2)
       go_roundw
       case rel =>
        refine ⟨k+1,A2,c2,_,by omega,by go_num,rfl,hown2,H9 ?_,?_,?_,?_⟩
        · rw [HX.out,List.range_succ,List.map_append,List.map_singleton,HNX.out]
        · exact ((HB06.out.far (by simp) _).far (by simp) _).grown hg2 (fun h=>by have:=(HO7.out.block _ h.symm).1;omega)
        · rw [HNX.out]
          exact ((HB16.out.set_ 0 _).set_ 1 _).grown hg2 (fun h=>by have:=(HO7.out.block _ h.symm).1;omega)
        · exact zca ((HBW6.out.setCell (by simp) _).setCell (by simp) _) HO7.out hg2 (by simp;omega) (by omega)
       case measure=>simp [intOf];omega
     · have hpar':(k:Int) % 2=1:=by omega
       have hce:x % 16=c:=by have:=HC.out;rw [if_neg hpar] at this;omega
       have HCE:=H9 hce
       clear hpar hce
       go_wp2_with fail
       refine (zij V I _ _ HSV.out (by omega) (by omega)).mono ?_
       rintro e w6 ⟨rfl,hb6⟩
       rw [HCE.out]
       have HB06:=H9 (HB0.out.later hb6)
       have HB16:=H9 (HB1.out.later hb6)
       have HO6:=H9 (HO.out.below hb6)
       have HBW6:=H9 (HB.out.trans (hb6.mono HB.out.size))
       clear hb6 HB0 HB1 HO HB c0 c1 f0 f1 hck
       have c0:=HB16.out.at 0 _ rfl
       have c1:=HB16.out.at 1 _ rfl
       have f0:=HB16.out.frozen 0
       have f1:=HB16.out.frozen 1
       have hbs2:=HB16.out.lt
       have HO7:Hid (Owns ((w6.setCell ⟨w.heap.size+1,0,none⟩ (.int .i64 (Dlt.nextV V I c))).setCell ⟨w.heap.size+1,1,none⟩ (.int .i64 (Dlt.nextI I c))) (w.heap.size+1+1) 93 1 A' k c' xs) :=
        H9 ((HO6.out.setCell (fun g hg=>by have:=(HO6.out.block g hg).1;simp;omega) _).setCell (fun g hg=>by have:=(HO6.out.block g hg).1;simp;omega) _)
       have HSZ:Hid (((w6.setCell ⟨w.heap.size+1,0,none⟩ (.int .i64 (Dlt.nextV V I c))).setCell ⟨w.heap.size+1,1,none⟩ (.int .i64 (Dlt.nextI I c))).heap.size=w6.heap.size):=H9 (by simp [World.setCell])
       obtain ⟨nv0,nv1⟩:=Dlt.nextV_bd V I c
       go_wp2_with (at_builtin;go_loud (refine zak rfl _ _ 66 rfl (w.heap.size+1+1) 93 1 2 (.int .i16 0) Tryz.underlying66 zho rfl (by decide) A' k c' xs rfl HO7.out [.int .i16 (Dlt.nextV V I c)] rfl (by simp [Value.oneCell']) (by rw [HSZ.out];rfl) (by unfold maxLen;omega) (by omega) (by rw [HSZ.out];omega) ?_);intro A2 c2 w2 hown2 hg2 hlt2)
       go_roundw
       case rel =>
        refine ⟨k+1,A2,c2,_,by omega,by go_num,rfl,hown2,H9 ?_,?_,?_,?_⟩
        · rw [HX.out,List.range_succ,List.map_append,List.map_singleton,HNX.out]
        · exact ((HB06.out.far (by simp) _).far (by simp) _).grown hg2 (fun h=>by have:=(HO7.out.block _ h.symm).1;omega)
        · rw [HNX.out]
          exact ((HB16.out.set_ 0 _).set_ 1 _).grown hg2 (fun h=>by have:=(HO7.out.block _ h.symm).1;omega)
        · exact zca ((HBW6.out.setCell (by simp) _).setCell (by simp) _) HO7.out hg2 (by simp;omega) (by omega)
       case measure=>simp [intOf];omega
   · obtain rfl:k=n:=by omega
     have HB0:=H9 B0
     have HB1:=H9 B1
     have HO:=H9 qo
     have HB:=H9 hb
     have HHH:=H9 (show Dlt.headS bs=(V0,x2) from HH.out)
     generalize hV:(Dlt.dAt (V0,x2) bs k).1=V at *
     generalize hI:(Dlt.dAt (V0,x2) bs k).2=I at *
     have HV:=H9 hV
     have HI:=H9 hI
     have c0:=B1.at 0 _ rfl
     have c1:=B1.at 1 _ rfl
     have d0:=B0.at 0 _ rfl
     have d1:=B0.at 1 _ rfl
     have f0:=B0.frozen 0
     have f1:=B0.frozen 1
     clear B0 B1 qo hb hV hI
     go_wp2
     go_region
     go_wp2
     refine bodyPost_ret (v := .tuple #[.slice A' k c', .agg #[.int .i64 V, .int .i64 I], .int .u8 0]) (by simp [results,Tryz.results89,go_sem,d0,d1]) rfl ?_
     refine ⟨A',c',by rw [HHH.out,HV.out,HI.out],?_,?_⟩
     · have h:Owns _ (w.heap.size+1+1) 93 1 A' k c' xs:=((HO.out.setCell (p:=⟨w.heap.size,0,none⟩) (fun g' hg=>by have:=(HO.out.block _ hg).1;simp;omega) (.int .i64 V)).setCell (p:=⟨w.heap.size,1,none⟩) (fun g' hg=>by have:=(HO.out.block _ hg).1;simp;omega) (.int .i64 I)).drew
       have e:xs=(Dlt.unpackL bs k).map (Value.int .i16):=by rw [HX.out,Dlt.unpackL,HHH.out,List.map_map];rfl
       rw [e] at h
       exact ⟨h.ints,fun _ b' o' e=>by have:=(h.block b' (by rw [e];rfl)).1;omega⟩
     · exact ((HB.out.setCell (by simp) _).setCell (by simp) _).drew
section
variable (w:World) (A:Option Addr) (cap:Nat) (bs:List Int) (n:Int)
theorem ziu (hA:IntsAt w w.heap.size .u8 A bs) (hz:Within 0 255 bs) (hmax:bs.length≤maxLen) :
 Calls Tryz.prog 89 #[.slice A bs.length cap, .int .i64 n] w fun e w' => ∃ (A':Option Addr) (c':Nat),e = .returned (.tuple #[.slice A' (Dlt.unpR bs n).1.length c', .agg #[.int .i64 (Dlt.unpR bs n).2.1, .int .i64 (Dlt.unpR bs n).2.2.1], .int .u8 (Dlt.unpR bs n).2.2.2]) ∧
  IntsNew w.heap.size w' .i16 A' (Dlt.unpR bs n).1∧Below w.heap.size w w':=by
 unfold Dlt.unpR
 by_cases hr:n<0∨8000<n
 · rw [if_pos hr]
   refine (zhx n A bs.length cap w hr).mono ?_
   rintro e w' ⟨rfl,hb⟩
   exact ⟨none,0,rfl,IntsNew.nil,hb⟩
 · rw [if_neg hr]
   obtain ⟨m,rfl⟩:=Int.eq_ofNat_of_zero_le (a:=n) (by omega)
   rw [Int.toNat_natCast]
   by_cases hs:bs.length<4+(m+1) / 2
   · rw [if_pos hs]
     refine (zhy m A bs.length cap w (by omega) hs).mono ?_
     rintro e w' ⟨rfl,hb⟩
     exact ⟨none,0,rfl,IntsNew.nil,hb⟩
   · rw [if_neg hs]
     by_cases hk:Dlt.okB bs m
     · rw [if_pos hk]
       refine (zkd m A bs cap w (by omega) hA hz hk).mono ?_
       rintro e w' ⟨A',c',rfl,h⟩
       exact ⟨A',c',by rw [Dlt.unpackL_len],h⟩
     · rw [if_neg hk]
       refine (zgj m A bs cap w (by omega) hA hz (by omega) hk hmax).mono ?_
       rintro e w' ⟨rfl,hb⟩
       exact ⟨none,0,rfl,IntsNew.nil,hb⟩
end
def RDecN (d:List Int×Int) (w:World) (e:Ending) (w':World):Prop:=∃ (A':Option Addr) (c':Nat),e = .returned (.tuple #[.slice A' d.1.length c', .int .u8 d.2])∧IntsNew w.heap.size w' .i16 A' d.1∧Below w.heap.size w w'
theorem zux (n:Int) (A:Option Addr) (bs:List Int) (c:Nat) (w:World) (hA:IntsAt w w.heap.size .u8 A bs) (hz:Within 0 255 bs) (h8:bs.length≤8000):Calls Tryz.prog 32 #[.int .u8 0, .slice A bs.length c, .int .i64 n] w (RDecN (Sb.decE 0 bs n) w):=by
 have e1:Sb.decE 0 bs n=(bs.map Cmp.fromMuZ,0):=by unfold Sb.decE;rw [if_pos rfl]
 rw [e1]
 clear e1
 have kU:=H9 fun (W:World) hW=>zep 1 A bs c W hW hz
 rw [show unpackOut 1 bs=bs.map Cmp.fromMuZ by unfold unpackOut;rw [if_pos ⟨rfl,h8⟩],show packErr 1 bs.length=0 by unfold packErr;rw [if_neg (by decide),if_neg (by omega)]] at kU
 obtain ⟨ZL,hZL⟩:∃ Z,Z=bs.map Cmp.fromMuZ:=⟨_,rfl⟩
 rw [← hZL] at kU ⊢
 clear hZL
 have HA:=H9 hA
 clear hA hz
 go_enter Tryz.func32,Tryz.ntmps32
 go_wp2_with fail
 refine (zml 0 _).mono ?_
 rintro e w1 ⟨rfl,hb1⟩
 have U:=H9 (Bel.later (Bel.refl w) hb1)
 have hs1:=hb1.size
 replace HA:=H9 (HA.out.later hb1)
 clear hb1
 rw [if_pos rfl]
 go_wp2_with fail
 refine (kU.out _ HA.out).mono ?_
 rintro e w2 ⟨A2,c2,rfl,hI,hb2⟩
 have U2:=H9 (U.out.later hb2)
 have HI:=H9 hI
 clear hI hb2 kU
 go_wp2_with fail
 exact bodyPost_ret (v := .tuple #[.slice A2 ZL.length c2, .int .u8 0]) (by simp [results,Tryz.results32,go_sem]) rfl ⟨A2,c2,rfl,HI.out.less hs1,U2.out⟩
theorem zuy (n:Int) (A:Option Addr) (bs:List Int) (c:Nat) (w:World) (hA:IntsAt w w.heap.size .u8 A bs) (hz:Within 0 255 bs) (h8:bs.length≤8000):Calls Tryz.prog 32 #[.int .u8 8, .slice A bs.length c, .int .i64 n] w (RDecN (Sb.decE 8 bs n) w):=by
 have e1:Sb.decE 8 bs n=(bs.map Cmp.fromAZ,0):=by unfold Sb.decE;rw [if_neg (by decide),if_pos rfl]
 rw [e1]
 clear e1
 have kU:=H9 fun (W:World) hW=>zep 2 A bs c W hW hz
 rw [show unpackOut 2 bs=bs.map Cmp.fromAZ by unfold unpackOut;rw [if_neg (fun h=>absurd h.1 (by decide)),if_pos ⟨rfl,h8⟩],show packErr 2 bs.length=0 by unfold packErr;rw [if_neg (by decide),if_neg (by omega)]] at kU
 obtain ⟨ZL,hZL⟩:∃ Z,Z=bs.map Cmp.fromAZ:=⟨_,rfl⟩
 rw [← hZL] at kU ⊢
 clear hZL
 have HA:=H9 hA
 clear hA hz
 go_enter Tryz.func32,Tryz.ntmps32
 go_wp2_with fail
 refine (zml 8 _).mono ?_
 rintro e w1 ⟨rfl,hb1⟩
 have U:=H9 (Bel.later (Bel.refl w) hb1)
 have hs1:=hb1.size
 replace HA:=H9 (HA.out.later hb1)
 clear hb1
 rw [if_neg (by decide)]
 go_wp2_with fail
 refine (kU.out _ HA.out).mono ?_
 rintro e w2 ⟨A2,c2,rfl,hI,hb2⟩
 have U2:=H9 (U.out.later hb2)
 have HI:=H9 hI
 clear hI hb2 kU
 go_wp2_with fail
 exact bodyPost_ret (v := .tuple #[.slice A2 ZL.length c2, .int .u8 0]) (by simp [results,Tryz.results32,go_sem]) rfl ⟨A2,c2,rfl,HI.out.less hs1,U2.out⟩
theorem zsh (n:Int) (A:Option Addr) (bs:List Int) (c:Nat) (w:World) (hA:IntsAt w w.heap.size .u8 A bs) (hz:Within 0 255 bs) (h8:bs.length≤8000):Calls Tryz.prog 32 #[.int .u8 96, .slice A bs.length c, .int .i64 n] w (RDecN (Sb.decE 96 bs n) w):=by
 have e1:Sb.decE 96 bs n=((Dlt.unpR bs n).1,(Dlt.unpR bs n).2.2.2):=by unfold Sb.decE;rw [if_neg (by decide),if_neg (by decide)]
 rw [e1]
 clear e1
 have hm:bs.length≤maxLen:=by unfold maxLen;omega
 have kU:=H9 fun (W:World) hW=>ziu W A c bs n hW hz hm
 generalize Dlt.unpR bs n=R at *
 obtain ⟨ZL,R2,R3,R4⟩:=R
 dsimp only at kU ⊢
 have HA:=H9 hA
 clear hA hz
 go_enter Tryz.func32,Tryz.ntmps32
 go_wp2_with fail
 refine (kU.out _ HA.out).mono ?_
 rintro e w2 ⟨A2,c2,rfl,hI,hb2⟩
 have U2:=H9 ((Bel.later (Bel.refl w) hb2).push (.cells #[.int .i64 R2, .int .i64 R3] 24))
 have HI:=H9 (hI.push (.cells #[.int .i64 R2, .int .i64 R3] 24))
 clear hI hb2 kU
 go_wp2_with fail
 exact bodyPost_ret (v := .tuple #[.slice A2 ZL.length c2, .int .u8 R4]) (by simp [results,Tryz.results32,go_sem]) rfl ⟨A2,c2,rfl,HI.out,U2.out⟩
theorem zpu (k:Int) (hk:speechB k=true) (n:Int) (A:Option Addr) (bs:List Int) (c:Nat) (w:World) (hA:IntsAt w w.heap.size .u8 A bs) (hz:Within 0 255 bs) (h8:bs.length≤8000):Calls Tryz.prog 32 #[.int .u8 k, .slice A bs.length c, .int .i64 n] w (RDecN (Sb.decE k bs n) w):=by
 rcases zbi.1 hk with rfl|rfl|rfl
 · exact zux n A bs c w hA hz h8
 · exact zuy n A bs c w hA hz h8
 · exact zsh n A bs c w hA hz h8
def REncC (k:Int) (d:List Int×(Int×Int)×Int) (w:World) (e:Ending) (w':World):Prop:=∃ (A':Option Addr) (c':Nat),e = .returned (.tuple #[.slice A' d.1.length c', .agg #[.int .i64 d.2.1.1, .int .i64 d.2.1.2], .int .u8 d.2.2])∧(k=96→d.1.length≤c')∧IntsAt w' w'.heap.size .u8 A' d.1∧Below w.heap.size w w'
end Go.Proofs.YtahbecinkciahaaGreat
namespace Go.Proofs.YtahbecinkciahaaGreat
open Go.RowKit
end Go.Proofs.YtahbecinkciahaaGreat
namespace Go.Proofs.YtahbecinkciahaaGreat
attribute [local go_sem ↓] zae zaf
attribute [local go_sem] zad zag
open Go.RowKit
def RSentR (p:Sb.Pt) (ty ti:Int) (mk:Bool) (B:Option Addr) (pl:List Int) (bc:Nat) (A:Option Addr) (n c:Nat) (w:World) (e:Ending) (w':World):Prop :=
 ∃ g:Nat,e = .returned (.tuple #[.agg (PA (Sb.emit p ty ti mk pl).1 A n c), .slice (some ⟨g,0,none⟩) 1 1])∧w.heap.size≤g∧Blk w' g 51 (pktRow (Sb.emit p ty ti mk pl).2 B bc).toArray∧Below w.heap.size w w'
end Go.Proofs.YtahbecinkciahaaGreat
namespace Go.Proofs.YtahbecinkciahaaGreat
open Go.RowKit
def tagV:Value→Nat
 | .int .u8 _=>1
 | .slice _ _ _=>2
 | _=>0
def portT:List Nat:=[1,0,0,0,0,0,0,0,0,1,1,0,0,0,0,0,0,0,0,0,0,0,0,0,2,0,0,0,0,0,0,0,0,0,0,0,0,0,0,0,0,0,1,0,0,0,0,0]
theorem zuz (p:Sb.Pt) (A:Option Addr) (n c:Nat):(PL p A n c).map tagV=portT:=rfl
theorem zgt {p:Sb.Pt} {A:Option Addr} {n c i:Nat} {v:Value} (h:(PL p A n c)[i]? = some v):portT[i]? = some (tagV v):=by
 rw [← zuz p A n c,List.getElem?_map,h];rfl
theorem znm:∀ i:Fin 48, ¬(portT[i.val]? = some 1∧portT[i.val+1]? = some 2):=by decide
theorem zva:∀ i:Fin 48,portT[i.val]? = some 1→i.val=0∨i.val=9∨i.val=10∨i.val=42:=by decide
structure SameB (p p':Sb.Pt):Prop where
 codec:p'.codec=p.codec
 code:p'.tn.code=p.tn.code
 vol:p'.tn.vol=p.tn.vol
 hcode:p'.hd.code=p.hd.code
theorem SameB.at {p p':Sb.Pt} (h:SameB p p') {A A':Option Addr} {n n' c c' i:Nat} {z:Int} (hi:(PL p A n c)[i]? = some (.int .u8 z)):(PL p' A' n' c')[i]? = some (.int .u8 z):=by
 have ht:=zgt hi
 have hlt:i<48:=(List.getElem?_eq_some_iff.1 hi).1
 have h1:=h.codec
 have h2:=h.code
 have h3:=h.vol
 have h4:=h.hcode
 rcases zva ⟨i,hlt⟩ ht with e|e|e|e
 all_goals
  simp only at e
  subst e
  rw [← hi]
 · show some (Value.int .u8 p'.codec)=some (Value.int .u8 p.codec);rw [h1]
 · show some (Value.int .u8 p'.tn.code)=some (Value.int .u8 p.tn.code);rw [h2]
 · show some (Value.int .u8 p'.tn.vol)=some (Value.int .u8 p.tn.vol);rw [h3]
 · show some (Value.int .u8 p'.hd.code)=some (Value.int .u8 p.hd.code);rw [h4]
theorem PB.at' {W:World} {g:Nat} {p:Sb.Pt} {A:Option Addr} {n c i:Nat} (h:PB W g p A n c):W.cell? ⟨g,i,none⟩=(PL p A n c)[i]? := by
 have:=Blk.cell h i
 rw [this];unfold PA;simp
theorem Wts.port {W W':World} {g n n0 c0 n1 c1:Nat} {p p':Sb.Pt} {A A0 A1:Option Addr} {l:List TW} (h:Wts W n A l) (hb:PB W g p A0 n0 c0) (hb':PB W' g p' A1 n1 c1) (hu:SameB p p') (ho:OnlyB g W W'):Wts W' n A l:=by
 refine ⟨fun h0 => ?_,fun a ha h0 => ?_⟩
 · obtain ⟨b,off,e,hlt,hc⟩:=h.1 h0
   have c4:=hc 0 l[0] (List.getElem?_eq_getElem h0) 4 _ rfl
   have c5:=hc 0 l[0] (List.getElem?_eq_getElem h0) 5 _ rfl
   have hne:b≠g:=fun eb=>by
    subst eb
    rw [hb.at'] at c4 c5
    have t4:=zgt c4
    have t5:=zgt c5
    have hl4:off+0*6+4<48:=(List.getElem?_eq_some_iff.1 c4).1
    exact znm ⟨off+0*6+4,hl4⟩ ⟨t4,t5⟩
   exact ⟨b,off,e,hlt,fun i a ha j v hv=>(ho.cell (show b≠g from hne)).trans (hc i a ha j v hv)⟩
 · obtain ⟨b,off,e,hlt,hc⟩:=h.2 a ha h0
   refine ⟨b,off,e,hlt,fun i hi => ?_⟩
   have:=hc i hi
   by_cases eb:b=g
   · subst eb
     rw [hb.at'] at this
     rw [hb'.at']
     exact hu.at this
   · exact (ho.cell (show b≠g from eb)).trans this
theorem SC.pc {w:World} {p:Sb.Pt} {A:Option Addr} {l:List TW} {n c:Nat} {ZA:Option Addr} {zs:List Int} {zc:Nat} (h:SC w p A l n c ZA zs zc):PC w p A l n c:=⟨h.wf,h.q,h.len,h.n5,h.cap,h.cm,h.av,h.sq,h.pay⟩
def RSendR (R:Sb.Pt×List Sb.Pkt×Int) (w:World) (e:Ending) (w':World):Prop:=∃ (A:Option Addr) (n c:Nat) (KA:Option Addr) (kc:Nat) (ks:List TK),e = .returned (.tuple #[.agg (PA R.1 A n c), .slice KA ks.length kc, .int .u8 R.2.2])∧ks.map TK.k=R.2.1∧PW w' R.1 A n∧Pks w' w'.heap.size KA ks∧Below w.heap.size w w'
theorem PkS.blk {W:World} {g bc:Nat} {S:List Nat} {B:Option Addr} {k:Sb.Pkt} (hb:Blk W g 51 (pktRow k B bc).toArray) (hg:g∉S) (hp:IntsAv W S .u8 B k.pl):PkS W 0 S (some ⟨g,0,none⟩) [⟨k,B,bc⟩]:=by
 refine ⟨⟨fun _=>⟨g,0,rfl,hb.lt,fun i a ha j v hv => ?_⟩,fun a ha => ?_⟩,fun _ b off e hS => ?_,fun a ha h0 b off e => ?_,fun _ b off e=>Nat.zero_le _,fun a ha h0 b off e=>Nat.zero_le _⟩
 · obtain rfl:i=0:=by have:=(List.getElem?_eq_some_iff.1 ha).1;simp at this;omega
   simp at ha
   subst ha
   have h1:=hb.at j v (by simpa [TK.row] using hv)
   simpa using h1
 · obtain rfl:=List.mem_singleton.1 ha
   exact hp.1
 · injection e with e;injection e with e1 _;subst e1;exact hg hS
 · obtain rfl:=List.mem_singleton.1 ha
   exact hp.2 h0 b off e
theorem IntsAt.off_port {W:World} {N g n c:Nat} {p:Sb.Pt} {A B:Option Addr} {zs:List Int} (h:IntsAt W N .u8 B zs) (hb:PB W g p A n c) (h3:3≤zs.length) (b off:Nat) (e:B=some ⟨b,off,none⟩):b≠g:=by
 intro eb
 subst eb
 obtain ⟨b',off',e',hlt,hc⟩:=h (by omega)
 rw [e] at e'
 injection e' with e'
 injection e' with e1 e2
 subst e1 e2
 have c0:=hc 0 (by omega)
 have c1:=hc 1 (by omega)
 have c2:=hc 2 (by omega)
 rw [PB.at' hb] at c0 c1 c2
 have t0:=zgt c0
 have t1:=zgt c1
 have t2:=zgt c2
 have hl:off+2<48:=(List.getElem?_eq_some_iff.1 c2).1
 have hu:∀ i:Fin 46, ¬(portT[i.val]? = some 1∧portT[i.val+1]? = some 1∧portT[i.val+2]? = some 1):=by decide
 exact hu ⟨off,by omega⟩ ⟨t0,t1,t2⟩
theorem RB.ints {w W:World} {p:Sb.Pt} {A B:Option Addr} {n c:Nat} {zs:List Int} (S:RB w W p A n c) (h:IntsAt W W.heap.size .u8 B zs) (h3:3≤zs.length):IntsAv W [w.heap.size+1,w.heap.size] .u8 B zs :=
 ⟨h,fun _ b off e hb=>by
  simp at hb
  rcases hb with rfl|rfl
  · exact h.off_port S.b1 h3 _ off e rfl
  · exact h.off_port S.b0 h3 _ off e rfl⟩
noncomputable def rs6_code:Code:=((Tryz.f24.body.bind (fromReg 6)).getD .skip)
end Go.Proofs.YtahbecinkciahaaGreat
namespace Go.Proofs.YtahbecinkciahaaGreat
attribute [local go_sem ↓] zae zaf
attribute [local go_sem] zad zag
open Go.RowKit
theorem r72 (s:Nat→Value):((List.range 72).map s).toArray = #[s 0,s 1,s 2,s 3,s 4,s 5,s 6,s 7,s 8,s 9,s 10,s 11,s 12,s 13,s 14,s 15,s 16,s 17,s 18,s 19,s 20,s 21,s 22,s 23,s 24,s 25,s 26,s 27,s 28,s 29,s 30,s 31,s 32,s 33,s 34,s 35,s 36,s 37,s 38,s 39,s 40,s 41,s 42,s 43,s 44,s 45,s 46,s 47,s 48,s 49,s 50,s 51,s 52,s 53,s 54,s 55,s 56,s 57,s 58,s 59,s 60,s 61,s 62,s 63,s 64,s 65,s 66,s 67,s 68,s 69,s 70,s 71]:=rfl
structure OkQ (a:TW):Prop where
 t0:0≤a.w.m.ty
 t1:a.w.m.ty≤255
 z:Within 0 255 a.w.m.pl
 len:a.w.m.pl.length≤8000
def RPlayedR (p:Sb.Pt) (A:Option Addr) (n c:Nat) (l:List TW) (w:World) (e:Ending) (w':World):Prop :=
 ∃ (SA:Option Addr) (sc:Nat) (ls:List TS),e = .returned (.tuple #[.agg (PA { p with seed:=(Sb.sounds p.seed (l.map TW.w)).1 } A n c), .slice SA l.length sc])∧ls.map TS.s=(Sb.sounds p.seed (l.map TW.w)).2∧SOwn w' (w.heap.size+2) SA l.length sc ls∧Below w.heap.size w w'
theorem SOwn.skip {wr W W':World} {g base n c:Nat} {A:Option Addr} {l:List TS} (h0:SOwn wr base A n c l) (h:SOwn W base A n c l) (ho:OnlyB g W W') (hg:wr.heap.size≤g):SOwn W' base A n c l:=by
 have lowA:∀ k,ownB A=some k→k<wr.heap.size:=fun k e=>(h0.own.block k e).2
 have low:∀ a∈l,0<a.s.zs.length→∀ b off,a.S=some ⟨b,off,none⟩→b<wr.heap.size:=by
  intro a ha hl b off e
  obtain ⟨b',off',e',hlt,_⟩:=h0.pay a ha hl
  rw [e] at e'
  injection e' with e'
  injection e' with e1 _
  omega
 refine ⟨h.len,h.own.grown ho.1 (fun k hk e=>by injection e with e;have:=lowA k hk;omega),fun a ha hl => ?_,h.far,h.new⟩
 obtain ⟨b,off,e,hlt,hc⟩:=h.pay a ha hl
 have:=low a ha hl b off e
 exact ⟨b,off,e,by rw [ho.2];exact hlt,fun i hi=>(ho.cell (show b≠g by omega)).trans (hc i hi)⟩
structure PdS (w wr W:World) (p:Sb.Pt) (A:Option Addr) (n c:Nat) (g9:Nat) (at0:Int) (D:List Int×Int) (A':Option Addr) (k c':Nat) (ls:List TS) (S1:Option Addr) (c1:Nat):Prop where
 bx:Blk W g9 86 #[.int .i64 at0, .slice S1 D.1.length c1, .slice none 0 0]
 rb:RB w W { p with seed:=D.2 } A n c
 so:SOwn W (w.heap.size+2) A' k c' ls
 pay:IntsAt W W.heap.size .i16 S1 D.1
 far:0<D.1.length→∀ b off,S1=some ⟨b,off,none⟩→wr.heap.size≤b∧b≠g9
theorem zfi (p:Sb.Pt) (s0:0≤p.seed) (s1:p.seed≤4294967295) (A:Option Addr) (n c:Nat) (X:Array Value) (hX:X=PA p A n c) (LA:Option Addr) (l:List TW) (m lc:Nat) (w:World) (hm:l.length=m) (hml:m≤100000) (hA:Wts w w.heap.size LA l) (hok:∀ a∈l,OkQ a):Calls Tryz.prog 55 #[.agg X, .slice LA m lc] w (RPlayedR p A n c l w):=by
 subst hm
 have S:=RB.new w X hX
 have HA:=H9 hA
 have HP:=H9 hok
 have HS0:=H9 (show (0:Int)≤p.seed∧p.seed≤4294967295 from ⟨s0,s1⟩)
 clear hA hok s0 s1
 clear hX
 go_enter Tryz.func55,Tryz.ntmps55
 go_upto_region 1 with fail
 change Code.wp _ _ _ _ ((w.alloc (Obj.cells X 48)).alloc (Obj.cells (PA Sb.Pt.zero none 0 0) 48))
 obtain ⟨W,hW⟩:∃ W,W=(w.alloc (Obj.cells X 48)).alloc (Obj.cells (PA Sb.Pt.zero none 0 0) 48):=⟨_,rfl⟩
 rw [← hW] at S ⊢
 clear hW
 go_wp2_with fail
 refine wp_loop_rounds (l.length+1) (zmn (fun gk a wr => ∃ (k:Nat) (A':Option Addr) (c':Nat) (ls:List TS),gk+k=l.length∧Hid (ls.map TS.s=(Sb.sounds p.seed ((l.map TW.w).take k)).2)∧Hid (SOwn wr (w.heap.size+2) A' k c' ls)∧RB w wr { p with seed:=(Sb.sounds p.seed ((l.map TW.w).take k)).1 } A n c∧Fr 72 [(1, .slice LA l.length lc),(2, .pointer (some ⟨w.heap.size,0,none⟩)),(4, .pointer (some ⟨w.heap.size+1,0,none⟩)),(6, .slice A' k c'),(7, .int .i64 (k:Int))] a) (fun gk a wr hJ => ?_) l.length _ _ ⟨0,none,0,[],rfl,H9 rfl,H9 SOwn.nil,S,Fr.mk rfl ⟨rfl,rfl,rfl,rfl,rfl,trivial⟩⟩)
 clear S
 obtain ⟨k,A',c',ls,hgk,HL,HO,S,ha⟩:=hJ
 obtain ⟨s,rfl,e1,e2,e4,e6,e7,_⟩:=ha
 rw [r72,e1,e2,e4,e6,e7]
 clear e1 e2 e4 e6 e7
 have hi0:(0:Int)≤(k:Int):=by omega
 have hbs:=S.lt
 by_cases hk:k<l.length
 rotate_left
 · obtain rfl:k=l.length:=by omega
   have hi1:¬(l.length:Int)<(l.length:Int):=by omega
   rw [List.take_of_length_le (by simp)] at HL S
   obtain ⟨q,hq⟩:∃ q:Sb.Pt,q = { p with seed:=(Sb.sounds p.seed (l.map TW.w)).1 } := ⟨_,rfl⟩
   rw [← hq] at S
   have HQ:=H9 hq
   clear hq
   go_upto_region 14 with fail
   go_wp2_with (first|(refine zab rfl 48 (.tmp 2) rfl (w.heap.size) 0 rfl 48 (PL q A n c) S.b0 48 _ Tryz.underlying48 zah (show 0+48≤48 by decide) (PA q A n c) (by rfl) rfl ?_)|(refine zac rfl 48 (.tmp 4) (.tmp 70) rfl (w.heap.size+1) 0 rfl 48 (PL Sb.Pt.zero none 0 0) S.b1 (PL q A n c) rfl zah (show 0+48≤48 by decide) rfl (PL q A n c) rfl ?_;intro WH BH OH)|fail)
   exact bodyPost_ret (v := .tuple #[.agg (PA q A n c), .slice A' l.length c']) (zdn Tryz.results55 rfl (PB.load BH) rfl) rfl ⟨A',c',ls,by rw [HQ.out],HL.out,HO.out.only OH (by omega),OH.bel S.u (by omega)⟩
 have hi1:(k:Int)<(l.length:Int):=by omega
 obtain ⟨a,ha⟩:∃ a,l[k]? = some a:=⟨_,List.getElem?_eq_getElem hk⟩
 obtain ⟨b,off,rfl,hbB,e0,e1,e2,e3,e4,e5⟩:=zbs (HA.out.1.keep (fun p hp=>S.u.cell hp)) ha
 have hpa:=HP.out a (List.mem_of_getElem? ha)
 have hia:=(HA.out.2 a (List.mem_of_getElem? ha)).keep (w':=wr) (fun p hp=>S.u.cell hp)
 have hm:(l.map TW.w)[k]? = some a.w:=by rw [List.getElem?_map,ha];rfl
 have HM:=H9 hm
 have hsd:=zbo ((l.map TW.w).take k) p.seed HS0.out.1 HS0.out.2
 obtain ⟨⟨at0,⟨sq0,ti0,mk0,ty0,pl0⟩⟩,S0,c0⟩:=a
 obtain ⟨t0,t1,tz,tl⟩:=hpa
 simp only at e0 e1 e2 e3 e4 e5 t0 t1 tz tl hia HM
 have hsn:Hid (Sb.sounds p.seed ((l.map TW.w).take (k+1))=((Sb.dec ty0 pl0 (Sb.sounds p.seed ((l.map TW.w).take k)).1).2,(Sb.sounds p.seed ((l.map TW.w).take k)).2 ++ [⟨at0,(Sb.dec ty0 pl0 (Sb.sounds p.seed ((l.map TW.w).take k)).1).1,[]⟩])):=H9 (by rw [Sb.take_snoc HM.out,Sb.sounds_snoc])
 generalize Sb.sounds p.seed ((l.map TW.w).take k)=R at *
 obtain ⟨R1,R2⟩:=R
 simp only at hsd hsn HL S
 have HSD:=H9 hsd
 have HT:=H9 (And.intro t0 (And.intro t1 (And.intro tz tl)))
 have hpl0:(0:Int)≤(pl0.length:Int):=by omega
 obtain ⟨D,hD⟩:∃ D,D=Sb.dec ty0 pl0 R1:=⟨_,rfl⟩
 rw [← hD] at hsn
 have HD:=H9 hD
 clear ha hm tz tl hsd hD
 have BM:=H9 ((Blk.new wr 103 #[.int .i64 sq0, .int .i64 ti0, .bool mk0, .int .u8 ty0, .slice S0 pl0.length c0]).push (.cells #[.int .i64 at0, .slice none 0 0, .slice none 0 0] 86))
 have BX:=H9 (Blk.new1 wr (.cells #[.int .i64 sq0, .int .i64 ti0, .bool mk0, .int .u8 ty0, .slice S0 pl0.length c0] 103) 86 #[.int .i64 at0, .slice none 0 0, .slice none 0 0])
 have BB:=H9 (show Below wr.heap.size wr ((wr.alloc (.cells #[.int .i64 sq0, .int .i64 ti0, .bool mk0, .int .u8 ty0, .slice S0 pl0.length c0] 103)).alloc (.cells #[.int .i64 at0, .slice none 0 0, .slice none 0 0] 86)) from ((Below.refl _ _).alloc (Nat.le_refl _) _).alloc (by simp) _)
 have hbw:b<wr.heap.size:=by have:=S.u.size;omega
 have e0':=(World.cell?_alloc_lt wr (.cells #[.int .i64 sq0, .int .i64 ti0, .bool mk0, .int .u8 ty0, .slice S0 pl0.length c0] 103) ⟨b,off+k*6,none⟩ hbw).trans e0
 obtain ⟨W2,hW2⟩:∃ W,W=(wr.alloc (.cells #[.int .i64 sq0, .int .i64 ti0, .bool mk0, .int .u8 ty0, .slice S0 pl0.length c0] 103)).alloc (.cells #[.int .i64 at0, .slice none 0 0, .slice none 0 0] 86):=⟨_,rfl⟩
 rw [← hW2] at BM BX BB
 go_upto_region 7 with fail
 rw [← hW2]
 clear hW2 e0 e1 e2 e3 e4 e5 e0'
 replace S:=S.later BB.out
 have HOr:=HO
 replace HO:=H9 (HO.out.below BB.out)
 have IA:=H9 ((hia.more (Nat.le_of_lt (Nat.lt_trans (Nat.lt_succ_self _) hbs))).later BB.out)
 have hW2s:=BX.out.lt
 have hsz2:=BB.out.size
 rename_i Q9 K4 h4 K13 h13 K7 h7
 have hR:∀ (a:Act) (W:World) (S1:Option Addr) (c1:Nat),PdS w wr W p A n c (wr.heap.size+1) at0 D A' k c' ls S1 c1→Fr 72 [(1, .slice (some ⟨b,off,none⟩) l.length lc),(2, .pointer (some ⟨w.heap.size,0,none⟩)),(4, .pointer (some ⟨w.heap.size+1,0,none⟩)),(6, .slice A' k c'),(7, .int .i64 (k:Int)),(9, .pointer (some ⟨wr.heap.size+1,0,none⟩))] a→K13 a W:=by
  intro a W S1 c1 P ha
  obtain ⟨s,rfl,e1,e2,e4,e6,e7,e9,_⟩:=ha
  rw [r72,e1,e2,e4,e6,e7,e9]
  clear e1 e2 e4 e6 e7 e9
  refine h13 _ _ ?_
  have x0:=P.bx.at 0 _ rfl
  have x1:=P.bx.at 1 _ rfl
  have x2:=P.bx.at 2 _ rfl
  have hwz:=P.rb.lt
  have h5:(k+1)*56≤140737488355328:=by omega
  have h6:k+1≤maxLen:=by unfold maxLen;omega
  have hAb:∀ g,ownB A'=some g→g<wr.heap.size:=fun g e=>(HOr.out.own.block g e).2
  clear h13 HP HA HM BM BX hia IA HT
  go_wp2_with (at_builtin;go_loud (refine zaq (w0:=W) rfl _ _ 54 rfl (w.heap.size+2) 86 3 56 _ Tryz.underlying54 zdo rfl (by decide) A' k c' _ rfl P.so.own [.int .i64 at0, .slice S1 D.1.length c1, .slice none 0 0] rfl (by simp [Value.oneCell']) rfl h6 h5 (by omega) ?_);intro A9 c9 v1 qo hgr hat)
  have HO2:=P.so.step2 (a:=⟨⟨at0,D.1,[]⟩,S1,c1⟩) hgr (by simpa [TS.row] using qo) hat P.pay (fun h0 b off e=>by
   obtain ⟨h1,h2⟩:=P.far h0 b off e
   exact ⟨fun he=>by have:=hAb b he.symm;omega,by omega⟩)
  have HN:∀ g,g<w.heap.size+2→ownB A'≠some g:=fun g hg e=>by have:=(P.so.own.block g e).1;omega
  have RB2:RB w v1 { p with seed:=D.2 } A n c:=⟨P.rb.b0.grown hgr (fun e=>HN _ (by omega) e.symm),P.rb.b1.grown hgr (fun e=>HN _ (by omega) e.symm),Below.grown P.rb.u hgr P.rb.u.size (fun g e=>by have:=(P.so.own.block g e).1;omega)⟩
  refine ⟨gk-1,by omega,k+1,A9,c9,ls ++ [⟨⟨at0,D.1,[]⟩,S1,c1⟩],by omega,H9 ?_,H9 HO2,?_,Fr.mk rfl ⟨rfl,rfl,rfl,rfl,by go_num,trivial⟩⟩
  · rw [hsn.out,List.map_append,HL.out];rfl
  · rw [hsn.out];exact RB2
 clear h13 hsn HM HL HA HP hbB hbw HO hi1 hk hgk hml
 have x3:=BM.out.at 3 _ rfl
 have x4:=BM.out.at 4 _ rfl
 have k1:=H9 fun W=>zdi ty0 W
 by_cases hno:ty0=13∧pl0.length=1
 · obtain ⟨rfl,hl1⟩:=hno
   obtain ⟨x,rfl⟩:∃ x,pl0=[x]:=List.length_eq_one_iff.1 hl1
   obtain ⟨t0,t1,tz,tl⟩:=HT.out
   obtain ⟨x0,x1⟩:=tz x (by simp)
   obtain rfl:D=(((List.range 160).map fun k=>Ev.nsamp (Ev.amp (x / 6).toNat) R1 k),Ev.seed R1 160):=by
    rw [HD.out]
    unfold Sb.dec
    rw [if_pos rfl,if_pos hl1]
    unfold Ev.noise
    rw [if_neg (by decide)]
    rfl
   have k2:=H9 fun (V:World)=>zoa x R1 V 160 x0 x1 HSD.out.1 HSD.out.2 (by omega)
   unfold NoiseN at k2
   obtain ⟨bp,op,rfl,hbp,hcp⟩:=hia (by simp)
   have hpc:W2.cell? ⟨bp,op,none⟩=some (.int .u8 x):=(BB.out.cell (p:=⟨bp,op,none⟩) (show bp<wr.heap.size by omega)).trans (by simpa using hcp 0 (by simp))
   have hzl:((List.range 160).map fun k=>Ev.nsamp (Ev.amp (x / 6).toNat) R1 k).length=160:=by simp
   generalize ((List.range 160).map fun k=>Ev.nsamp (Ev.amp (x / 6).toNat) R1 k)=DZ at *
   generalize Ev.seed R1 160=D2 at *
   have HZL:=H9 hzl
   clear HD HT tz tl hcp hl1 hzl k1 IA HSD
   go_upto_region 8 with fail
   have HXX:=H9 (And.intro x4 hpc)
   clear x3 x4 hpc
   refine wp_region_held_drew (S:=fun w'=>w'.cell? ⟨wr.heap.size,4,none⟩=some (.slice (some ⟨bp,op,none⟩) 1 c0)∧w'.cell? ⟨bp,op,none⟩=some (.int .u8 x)) (by kernel_rfl) HXX.out (fun qH => ?_)
   obtain ⟨W3,hW3⟩:∃ V,V=W2.drew:=⟨_,rfl⟩
   have S3:RB w W3 { p with seed:=R1 } A n c:=by rw [hW3];exact ⟨S.b0,S.b1,Bel.drew S.u⟩
   have BX3:Blk W3 (wr.heap.size+1) 86 #[.int .i64 at0, .slice none 0 0, .slice none 0 0]:=by rw [hW3];exact BX.out
   have HO3:SOwn W3 (w.heap.size+2) A' k c' ls:=by rw [hW3];exact (HOr.out.below BB.out).drew
   have hW3s:wr.heap.size+1<W3.heap.size:=by rw [hW3];exact hW2s
   rw [← hW3] at qH ⊢
   clear hW3 S BX BM
   refine tk1 (i:=0) (v:=?_) rfl (Or.inl ⟨by rfl,?_⟩) qH ?_
   rotate_left
   · (intro w hSw;clear hSw;go_simp;try with_reducible rfl)
   try simp only [ss9]
   refine tk1 (i:=1) (v:=?_) rfl (Or.inl ⟨by rfl,?_⟩) qH ?_
   rotate_left
   · (intro w hSw;obtain ⟨y1,y2⟩:=hSw;go_simp;try with_reducible rfl)
   try simp only [ss9]
   refine tk1 (i:=2) (v:=?_) rfl (Or.inl ⟨by rfl,?_⟩) qH ?_
   rotate_left
   · (intro w hSw;clear hSw;go_simp;try with_reducible rfl)
   try simp only [ss9]
   refine tk1 (i:=3) (v:=?_) rfl (Or.inl ⟨by rfl,?_⟩) qH ?_
   rotate_left
   · (intro w hSw;obtain ⟨y1,y2⟩:=hSw;go_simp;try with_reducible rfl)
   try simp only [ss9]
   refine tk1 (i:=4) (v:=?_) rfl (Or.inl ⟨by rfl,?_⟩) qH ?_
   rotate_left
   · (intro w hSw;clear hSw;go_simp;try with_reducible rfl)
   try simp only [ss9]
   have x45:=S3.cell 45 _ rfl
   refine wpAnyH_ready (rs:=[5]) (by kernel_rfl) (by simp) ?_
   refine AllReadyH.cons (o:=_) rfl (fun K hK => ?_) AllReadyH.nil
   go_simp
   refine hK.out _ _ qH (fun qH => ?_)
   clear hK K
   try simp only [ss9]
   clear x45
   refine wpAnyH_ready (rs:=[6]) (by kernel_rfl) (by simp) ?_
   refine AllReadyH.cons (o:=_) rfl (fun K hK => ?_) AllReadyH.nil
   go_simp
   refine (k2.out _).mono ?_
   rintro e w4 ⟨A4,c4,rfl,hI,hb1⟩
   have hs4:=hb1.size
   have S4:=S3.later hb1
   have BX4:=BX3.later hb1
   have HO4:=HO3.below hb1
   have HI:=H9 hI
   refine hK.out _ _ ⟨(hb1.cell (p:=⟨wr.heap.size,4,none⟩) (show wr.heap.size<W3.heap.size by omega)).trans qH.1,(hb1.cell (p:=⟨bp,op,none⟩) (show bp<W3.heap.size by omega)).trans qH.2⟩ (fun qH => ?_)
   clear hK K hb1 k2 hI S3 BX3 HO3
   try simp only [ss9]
   refine tk1 (i:=7) (v:=?_) rfl (Or.inl ⟨by rfl,?_⟩) qH ?_
   rotate_left
   · (intro w hSw;clear hSw;go_simp;try with_reducible rfl)
   try simp only [ss9]
   refine tk1 (i:=8) (v:=?_) rfl (Or.inl ⟨by rfl,?_⟩) qH ?_
   rotate_left
   · (intro w hSw;clear hSw;go_simp;try with_reducible rfl)
   try simp only [ss9]
   refine tk1 (i:=9) (v:=?_) rfl (Or.inl ⟨by rfl,?_⟩) qH ?_
   rotate_left
   · (intro w hSw;clear hSw;go_simp;try with_reducible rfl)
   try simp only [ss9]
   refine tk1 (i:=10) (v:=?_) rfl (Or.inl ⟨by rfl,?_⟩) qH ?_
   rotate_left
   · (intro w hSw;clear hSw;go_simp;try with_reducible rfl)
   try simp only [ss9]
   refine tk1 (i:=11) (v:=?_) rfl (Or.inl ⟨by rfl,?_⟩) qH ?_
   rotate_left
   · (intro w hSw;clear hSw;go_simp;try with_reducible rfl)
   try simp only [ss9]
   have z1:=Blk.frozen BX4 1
   have y1:=BX4.at 1 _ rfl
   refine wpAnyH_ready (rs:=[12]) (by kernel_rfl) (by simp) ?_
   refine AllReadyH.cons (o:=_) rfl (fun K hK => ?_) AllReadyH.nil
   go_simp
   obtain ⟨W5,hW5⟩:∃ V,V=w4.setCell ⟨wr.heap.size+1,1,none⟩ (.slice A4 160 c4):=⟨_,rfl⟩
   have O5:OnlyB (wr.heap.size+1) w4 W5:=by rw [hW5];exact OnlyB.setCell _ _ _ _
   have BX5:Blk W5 (wr.heap.size+1) 86 #[.int .i64 at0, .slice A4 160 c4, .slice none 0 0]:=by rw [hW5];exact BX4.set_ 1 _
   rw [← hW5]
   clear hW5 y1 z1
   refine hK.out _ _ ⟨(O5.cell (show wr.heap.size≠wr.heap.size+1 by omega)).trans qH.1,(O5.cell (show bp≠wr.heap.size+1 by omega)).trans qH.2⟩ (fun qH => ?_)
   clear hK K BX4
   try simp only [ss9]
   have S5:=S4.far O5 (by omega)
   have HO5:=HOr.out.skip HO4 O5 (by omega)
   clear S4 HO4
   refine tk1 (i:=13) (v:=?_) rfl (Or.inl ⟨by rfl,?_⟩) qH ?_
   rotate_left
   · (intro w hSw;clear hSw;go_simp;try with_reducible rfl)
   try simp only [ss9]
   have z1:=Blk.frozen S5.b0 45
   have y1:=S5.cell 45 _ rfl
   refine wpAnyH_ready (rs:=[14]) (by kernel_rfl) (by simp) ?_
   refine AllReadyH.cons (o:=_) rfl (fun K hK => ?_) AllReadyH.nil
   go_simp
   obtain ⟨W6,hW6⟩:∃ V,V=W5.setCell ⟨w.heap.size,45,none⟩ (.int .u32 D2):=⟨_,rfl⟩
   have O6:OnlyB w.heap.size W5 W6:=by rw [hW6];exact OnlyB.setCell _ _ _ _
   have S6:RB w W6 { p with seed:=D2 } A n c:=by rw [hW6];exact S5.set 45 _ rfl
   rw [← hW6]
   clear hW6 y1 z1
   refine hK.out _ _ ⟨(O6.cell (show wr.heap.size≠w.heap.size by omega)).trans qH.1,(O6.cell (show bp≠w.heap.size by omega)).trans qH.2⟩ (fun qH => ?_)
   clear hK K
   try simp only [ss9]
   refine wpAnyH_done (by kernel_rfl) ?_ _
   go_wp2_with fail
   refine hR _ _ A4 c4 ⟨by rw [HZL.out];exact O6.blk BX5 (by omega),S6,HO5.only O6 (by omega),?_,fun h0 b off e=>by have:=HI.out.2 h0 b off e;omega⟩ (Fr.mk rfl ⟨rfl,rfl,rfl,rfl,rfl,rfl,trivial⟩)
   intro h0
   obtain ⟨b,off,e,hlt,hc⟩:=HI.out.1 h0
   have:=HI.out.2 h0 b off e
   have s5:=O5.2
   have s6:=O6.2
   exact ⟨b,off,e,by omega,fun i hi=>((O6.cell (show b≠w.heap.size by omega)).trans (O5.cell (show b≠wr.heap.size+1 by omega))).trans (hc i hi)⟩
 by_cases hsp:speechB ty0=true
 rotate_left
 · have hD:D=([],R1):=by
    rw [HD.out]
    unfold Sb.dec
    by_cases h:ty0=13
    · rw [if_pos h,if_neg (fun h2=>hno ⟨h,h2⟩)]
    · rw [if_neg h]
      unfold Sb.decS
      rw [if_neg (fun h=>hsp (zcq (.inl h))),if_neg (fun h=>hsp (zcq (.inr (.inl h)))),if_neg (fun h=>hsp (zcq (.inr (.inr h))))]
   subst hD
   have hsf:speechB ty0=false:=by cases h:speechB ty0 with|false=>rfl|true=>exact absurd h hsp
   rw [hsf] at k1
   have P9:∀ (V:World),Below W2.heap.size W2 V→PdS w wr V p A n c (wr.heap.size+1) at0 (([],R1):List Int×Int) A' k c' ls none 0:=fun V hb=>⟨BX.out.later hb,S.later hb,(HOr.out.below BB.out).below hb,fun h0=>absurd h0 (by simp),fun h0=>absurd h0 (by simp)⟩
   have HP9:=H9 P9
   clear P9 HD hsf hsp HOr BX
   by_cases h13:ty0=13
   · subst h13
     have hl1:¬(pl0.length:Int)=1:=by have:¬pl0.length=1:=fun h=>hno ⟨rfl,h⟩;omega
     have hl2:((pl0.length:Int)==1)=false:=by simpa using hl1
     clear hno
     go_wp2_with fail
     refine (k1.out _).mono ?_
     rintro e w3 ⟨rfl,hb1⟩
     have HPW:=H9 (HP9.out _ hb1)
     clear hb1 k1 HP9
     go_wp2_with fail
     exact hR _ _ none 0 HPW.out (Fr.mk rfl ⟨rfl,rfl,rfl,rfl,rfl,rfl,trivial⟩)
   · have h14:(ty0==13)=false:=by simpa using h13
     clear hno
     go_wp2_with fail
     refine (k1.out _).mono ?_
     rintro e w3 ⟨rfl,hb1⟩
     have HPW:=H9 (HP9.out _ hb1)
     clear hb1 k1 HP9
     go_wp2_with fail
     exact hR _ _ none 0 HPW.out (Fr.mk rfl ⟨rfl,rfl,rfl,rfl,rfl,rfl,trivial⟩)
 · have h13:¬ty0=13:=by rintro rfl;cases hsp
   have h14:(ty0==13)=false:=by simpa using h13
   have hdd:=zqo ty0 hsp pl0
   have hD:D=(Sb.decS ty0 pl0,R1):=by rw [HD.out];unfold Sb.dec;rw [if_neg h13]
   obtain ⟨t0,t1,tz,tl⟩:=HT.out
   have k2:=H9 fun (V:World) hV=>zpu ty0 hsp 160 S0 pl0 c0 V hV tz tl
   rw [hsp] at k1
   unfold RDecN at k2
   clear hno HT tz tl HD
   generalize Sb.decE ty0 pl0 160=DE at *
   obtain ⟨DZ,DR⟩:=DE
   dsimp only at k2 hdd
   have HDD:=H9 hdd
   have HDN:=H9 hD
   clear hdd hD hsp
   go_wp2_with fail
   refine (k1.out _).mono ?_
   rintro e w3 ⟨rfl,hb1⟩
   replace S:=S.later hb1
   replace BM:=H9 (BM.out.later hb1)
   replace BX:=H9 (BX.out.later hb1)
   have HO3:=H9 ((HOr.out.below BB.out).below hb1)
   replace IA:=H9 (IA.out.later hb1)
   have hs3:=hb1.size
   clear hb1 k1 x3 x4
   have x3:=BM.out.at 3 _ rfl
   have x4:=BM.out.at 4 _ rfl
   go_wp2_with fail
   refine (k2.out _ IA.out).mono ?_
   rintro e w4 ⟨A4,c4,rfl,hI,hb1⟩
   replace S:=S.later hb1
   replace BX:=H9 (BX.out.later hb1)
   replace HO3:=H9 (HO3.out.below hb1)
   have HI:=H9 hI
   have hbx:=BX.out.lt
   clear hb1 k2 x3 x4 hI IA BM
   by_cases hr:DR=0
   · subst hr
     obtain rfl:D=(DZ,R1):=by
      rw [HDN.out]
      rcases HDD.out with ⟨_,h2⟩|⟨h1,_⟩
      · rw [h2]
      · exact absurd rfl h1
     have z1:=BX.out.frozen 1
     have y1:=BX.out.at 1 _ rfl
     go_wp2_with fail
     refine hR _ _ A4 c4 ⟨BX.out.set_ 1 _,?_,?_,?_,fun h0 b off e=>by have:=HI.out.2 h0 b off e;omega⟩ (Fr.mk rfl ⟨rfl,rfl,rfl,rfl,rfl,rfl,trivial⟩)
     · exact S.far (OnlyB.setCell _ _ _ _) (by omega)
     · exact HOr.out.skip HO3.out (OnlyB.setCell _ _ _ _) (by omega)
     · intro h0
       obtain ⟨b,off,e,hlt,hc⟩:=HI.out.1 h0
       have:=HI.out.2 h0 b off e
       exact ⟨b,off,e,by simpa [World.setCell] using hlt,fun i hi=>((OnlyB.setCell _ _ _ _).cell (show b≠wr.heap.size+1 by omega)).trans (hc i hi)⟩
   · obtain rfl:D=([],R1):=by
      rw [HDN.out]
      rcases HDD.out with ⟨h1,_⟩|⟨_,h2⟩
      · exact absurd h1 hr
      · rw [h2]
     go_wp2_with fail
     exact hR _ _ none 0 ⟨BX.out,S,HO3.out,fun h0=>absurd h0 (by simp),fun h0=>absurd h0 (by simp)⟩ (Fr.mk rfl ⟨rfl,rfl,rfl,rfl,rfl,rfl,trivial⟩)
theorem zed (le mo nw:Int) (on:Bool) (ze fi hi dn sp tr:Int) (A:Option Addr) (l:List TW) (n qc:Nat) (la tw pd:Int) (now:Int) (fm:Bool) (w:World) (hn:l.length=n) (hl:n≤100000) (hA:Wts w w.heap.size A l) (hP:∀ a∈l,a.w.m.pl.length≤1000000000) (r:Int) (hr:r=Jb.chk ⟨le,mo,nw,on,ze,fi,hi,dn,sp,tr,l.map TW.w,la,tw,pd⟩ now fm):Calls Tryz.prog 117 #[.agg #[.int .i64 le, .int .i64 mo, .int .i64 nw, .bool on, .int .i64 ze, .int .i64 fi, .int .i64 hi, .int .i64 dn, .int .i64 sp, .int .i64 tr, .slice A n qc, .int .i64 la, .int .i64 tw, .int .i64 pd], .int .i64 now, .bool fm] w fun e w'=>e = .returned (.int .u8 r)∧Below w.heap.size w w':=by
 subst hn
 have HR:=H9 hr
 clear hr
 obtain ⟨vv,hvv⟩:∃ vv,vv=Jb.valid ⟨le,mo,nw,on,ze,fi,hi,dn,sp,tr,l.map TW.w,la,tw,pd⟩:=⟨_,rfl⟩
 have HVV:=H9 hvv
 have k1:=H9 fun (W:World) (hW:Bel w W)=>zgx le mo nw on ze fi hi dn sp tr A l l.length qc la tw pd W rfl hl ((hA.below hW).more hW.size) hP vv hvv
 have U0:=H9 ((Bel.refl w).push (.cells #[.int .i64 le, .int .i64 mo, .int .i64 nw, .bool on, .int .i64 ze, .int .i64 fi, .int .i64 hi, .int .i64 dn, .int .i64 sp, .int .i64 tr, .slice A l.length qc, .int .i64 la, .int .i64 tw, .int .i64 pd] 40))
 have BS:=H9 (Blk.new w 40 #[.int .i64 le, .int .i64 mo, .int .i64 nw, .bool on, .int .i64 ze, .int .i64 fi, .int .i64 hi, .int .i64 dn, .int .i64 sp, .int .i64 tr, .slice A l.length qc, .int .i64 la, .int .i64 tw, .int .i64 pd])
 clear hA hP hvv
 cases vv
 · obtain rfl:r=2:=by rw [HR.out];exact zdj (Or.inl HVV.out.symm)
   go_enter Tryz.func117,Tryz.ntmps117
   go_wp2_with fail
   refine (k1.out _ U0.out).mono ?_
   rintro e w1 ⟨rfl,hb1⟩
   have U1:=H9 (U0.out.later hb1)
   have BS1:=H9 (BS.out.later hb1)
   have g1:=BS1.out.at 2 _ rfl
   clear hb1
   go_wp2_with fail
   go_ret
   exact ⟨by first|rfl|simp,U1.out⟩
 by_cases hnow:281474976710656<now
 · obtain rfl:r=2:=by rw [HR.out];exact zdj (Or.inr (Or.inl hnow))
   go_enter Tryz.func117,Tryz.ntmps117
   go_wp2_with fail
   refine (k1.out _ U0.out).mono ?_
   rintro e w1 ⟨rfl,hb1⟩
   have U1:=H9 (U0.out.later hb1)
   have BS1:=H9 (BS.out.later hb1)
   have g1:=BS1.out.at 2 _ rfl
   clear hb1
   go_wp2_with fail
   go_ret
   exact ⟨by first|rfl|simp,U1.out⟩
 have hnow':now≤281474976710656:=by omega
 cases fm
 · obtain rfl:r=2:=by rw [HR.out];exact zdj (Or.inr (Or.inr rfl))
   go_enter Tryz.func117,Tryz.ntmps117
   go_wp2_with fail
   refine (k1.out _ U0.out).mono ?_
   rintro e w1 ⟨rfl,hb1⟩
   have U1:=H9 (U0.out.later hb1)
   have BS1:=H9 (BS.out.later hb1)
   have g1:=BS1.out.at 2 _ rfl
   clear hb1
   go_wp2_with fail
   go_ret
   exact ⟨by first|rfl|simp,U1.out⟩
 have hrr:r=if now<nw then 9 else 0:=by rw [HR.out];exact zmm HVV.out.symm hnow' rfl
 by_cases hlt:now<nw
 · rw [if_pos hlt] at hrr
   subst hrr
   go_enter Tryz.func117,Tryz.ntmps117
   go_wp2_with fail
   refine (k1.out _ U0.out).mono ?_
   rintro e w1 ⟨rfl,hb1⟩
   have U1:=H9 (U0.out.later hb1)
   have BS1:=H9 (BS.out.later hb1)
   have g1:=BS1.out.at 2 _ rfl
   clear hb1
   go_wp2_with fail
   go_ret
   exact ⟨by first|rfl|simp,U1.out⟩
 · rw [if_neg hlt] at hrr
   subst hrr
   have hlt':nw≤now:=by omega
   go_enter Tryz.func117,Tryz.ntmps117
   go_wp2_with fail
   refine (k1.out _ U0.out).mono ?_
   rintro e w1 ⟨rfl,hb1⟩
   have U1:=H9 (U0.out.later hb1)
   have BS1:=H9 (BS.out.later hb1)
   have g1:=BS1.out.at 2 _ rfl
   clear hb1
   go_wp2_with fail
   go_ret
   exact ⟨by first|rfl|simp,U1.out⟩
structure RSt (w W:World) (cs:List Value) (A1:Option Addr) (n1 c1:Nat) (l1:List TW) (A2:Option Addr) (n2 c2:Nat) (l2:List TW):Prop where
 bs:Blk W w.heap.size 40 cs.toArray
 br:Blk W (w.heap.size+1) 40 Z14.toArray
 u:Bel w W
 o1:Owns W (w.heap.size+1+1) 105 6 A1 n1 c1 (l1.flatMap TW.row)
 o2:Owns W (w.heap.size+1+1) 105 6 A2 n2 c2 (l2.flatMap TW.row)
 len1:l1.length=n1
 len2:l2.length=n2
 apart:∀ g,ownB A1=some g→ownB A2≠some g
 hB:w.heap.size+1+1≤W.heap.size
section
variable {w W W':World} {n1 c1 n2 c2:Nat} {cs:List Value} {A1 A2:Option Addr} {l1 l2:List TW}
theorem RSt.later (h:RSt w W cs A1 n1 c1 l1 A2 n2 c2 l2) (hb:Below W.heap.size W W'):RSt w W' cs A1 n1 c1 l1 A2 n2 c2 l2 :=
 ⟨h.bs.later hb,h.br.later hb,h.u.later hb,h.o1.below hb,h.o2.below hb,h.len1,h.len2,h.apart,Nat.le_trans h.hB hb.size⟩
theorem RSt.one (h:RSt w W cs A1 n1 c1 l1 A2 n2 c2 l2) {An:Option Addr} {cn:Nat} {a:TW} (ho:Owns W' (w.heap.size+1+1) 105 6 An (n1+1) cn (l1.flatMap TW.row++a.row)) (hg:W.grownBy W' (ownB A1)) (hat:ownB An=ownB A1∨∀ g,ownB An=some g→W.heap.size≤g):RSt w W' cs An (n1+1) cn (l1 ++ [a]) A2 n2 c2 l2:=by
 have hge:∀ g,ownB A1=some g→w.heap.size+1+1≤g:=fun g e=>(h.o1.block g e).1
 refine ⟨h.bs.grown hg (fun e=>by have:=hge _ e.symm;omega),h.br.grown hg (fun e=>by have:=hge _ e.symm;omega),h.u.grown hg (by have:=h.hB;omega) (fun g e=>by have:=hge g e;omega),by rw [List.flatMap_append];simpa using ho,h.o2.grown hg (fun g e e1=>h.apart g e1 e),by simp [h.len1],h.len2,fun g e e2 => ?_,Nat.le_trans h.hB hg.size⟩
 rcases hat with e1|e1
 · exact h.apart g (e1 ▸ e) e2
 · have:=e1 g e
   have:=(h.o2.block g e2).2
   omega
theorem RSt.swap (h:RSt w W cs A1 n1 c1 l1 A2 n2 c2 l2):RSt w W cs A2 n2 c2 l2 A1 n1 c1 l1:=⟨h.bs,h.br,h.u,h.o2,h.o1,h.len2,h.len1,fun g e e2=>h.apart g e2 e,h.hB⟩
theorem RSt.set (h:RSt w W cs A1 n1 c1 l1 A2 n2 c2 l2) (i:Nat) (v:Value):RSt w (W.setCell ⟨w.heap.size,i,none⟩ v) (cs.set i v) A1 n1 c1 l1 A2 n2 c2 l2:=by
 have hge1:∀ g,ownB A1=some g→g≠w.heap.size:=fun g e=>by have:=(h.o1.block g e).1;omega
 have hge2:∀ g,ownB A2=some g→g≠w.heap.size:=fun g e=>by have:=(h.o2.block g e).1;omega
 refine ⟨?_,h.br.far (by simp) _,zal h.u (Nat.le_refl _) _,h.o1.setCell hge1 _,h.o2.setCell hge2 _,h.len1,h.len2,h.apart,by simpa [World.setCell] using h.hB⟩
 have:=h.bs.set_ i v
 simpa using this
theorem RSt.drew (h:RSt w W cs A1 n1 c1 l1 A2 n2 c2 l2):RSt w W.drew cs A1 n1 c1 l1 A2 n2 c2 l2:=h.later (Below.refl _ _).drew
theorem RSt.drewN (h:RSt w W cs A1 n1 c1 l1 A2 n2 c2 l2):∀ k,RSt w (W.drewN k) cs A1 n1 c1 l1 A2 n2 c2 l2
 | 0=>h
 | k+1=>(h.drewN k).drew
theorem zpv {B:Nat} {A:Option Addr} {n c:Nat} {l:List TW} (ho:Owns W B 105 6 A n c (l.flatMap TW.row)) (hl:l.length=n) (hp:∀ a∈l,IntsAt W W.heap.size .u8 a.B a.w.m.pl):Wts W W.heap.size A l:=⟨Owns.rows ho hl (fun a=>rfl),hp⟩
theorem RSt.fin (h:RSt w W cs A1 n1 c1 l1 A2 n2 c2 l2) (vs:List Value) (hl:vs.length=14) (hp1:∀ a∈l1,IntsAt w w.heap.size .u8 a.B a.w.m.pl) (hp2:∀ a∈l2,IntsAt w w.heap.size .u8 a.B a.w.m.pl):Blk (setRow (w.heap.size+1) W 0 vs) (w.heap.size+1) 40 vs.toArray∧Wts (setRow (w.heap.size+1) W 0 vs) (setRow (w.heap.size+1) W 0 vs).heap.size A1 l1∧Wts (setRow (w.heap.size+1) W 0 vs) (setRow (w.heap.size+1) W 0 vs).heap.size A2 l2∧n2≤c2∧c2≤maxLen∧Below w.heap.size w (setRow (w.heap.size+1) W 0 vs):=by
 have U:=Go.Proofs.YtahbecinkciahaaGreat.below_setRow (g:=w.heap.size+1) (by omega) vs W 0 h.u
 have hz:=U.size
 have p:∀ (l:List TW),(∀ a∈l,IntsAt w w.heap.size .u8 a.B a.w.m.pl)→∀ a∈l,IntsAt (setRow (w.heap.size+1) W 0 vs) (setRow (w.heap.size+1) W 0 vs).heap.size .u8 a.B a.w.m.pl:=fun l hl a ha=>((hl a ha).keep (fun p hp=>U.cell hp)).more hz
 have q1:=Owns.setRow (w.heap.size+1) vs W 0 (fun b e=>by have:=(h.o1.block b e).1;omega) h.o1
 have q2:=Owns.setRow (w.heap.size+1) vs W 0 (fun b e=>by have:=(h.o2.block b e).1;omega) h.o2
 exact ⟨h.br.setRow vs (by simp [Z14,hl]),zpv q1 h.len1 (p _ hp1),zpv q2 h.len2 (p _ hp2),h.o2.cap,Owns.capm h.o2,U⟩
end
def dueT (now:Int) (a:TW):Bool:=decide (a.w.at_≤now)
theorem zsi {now:Int} {l:List TW} (h:Jb.Asc (l.map TW.w)):(l.filter (dueT now)).map TW.w=Jb.due now (l.map TW.w)∧(l.filter (fun a => !dueT now a)).map TW.w=Jb.left now (l.map TW.w):=by
 obtain ⟨h1,h2⟩:=Jb.filter_due now _ h
 rw [← h1,← h2,List.filter_map,List.filter_map]
 exact ⟨rfl,rfl⟩
theorem zmb {l:List TW} {k:Nat} {a:TW} (h:l[k]? = some a) (p:TW→Bool):(p a=true→(l.take (k+1)).filter p=(l.take k).filter p ++ [a])∧(p a=false→(l.take (k+1)).filter p=(l.take k).filter p):=by
 rw [List.take_add_one,h,List.filter_append]
 refine ⟨fun e => ?_,fun e => ?_⟩<;>simp [e]
theorem zke (d:Int) (l:List Jb.Wt) (a:Jb.Wt):Jb.maxSq d (l ++ [a])=max (Jb.maxSq d l) a.m.sq:=by simp [Jb.maxSq]
def JRunX (l:List TW) (s:Jb.Jt) (now:Int) (w:World) (e:Ending) (w':World):Prop :=
 ∃ (A1:Option Addr) (c1:Nat) (l1:List TW) (A2:Option Addr) (c2:Nat) (l2:List TW),e = .returned (.tuple #[JV (Jb.run s now).1 A2 l2.length c2, .slice A1 l1.length c1, .int .u8 (Jb.run s now).2.2])∧l1.map TW.w=(Jb.run s now).2.1∧l2.map TW.w=(Jb.run s now).1.q∧Wts w' w'.heap.size A1 l1∧Wts w' w'.heap.size A2 l2∧l2.length≤c2∧c2≤maxLen∧Below w.heap.size w w'∧(0<l1.length→∀ b off,A1=some ⟨b,off,none⟩→w.heap.size≤b)∧(∀ a∈l1,a∈l)∧(0<l2.length→∀ b off,A2=some ⟨b,off,none⟩→w.heap.size≤b)∧(∀ a∈l2,a∈l)
theorem zpw {w:World} {b0 base size n c:Nat} {t:TypeId} {A:Option Addr} {xs:List Value} (h:Owns w base t size A n c xs) (hb:b0≤base) (P:Prop):P→∀ b off,A=some ⟨b,off,none⟩→b0≤b:=fun _ b off e=>Nat.le_trans hb (h.block b (by rw [e];rfl)).1
theorem zpx (le mo nw:Int) (on:Bool) (ze fi hi dn sp tr:Int) (A:Option Addr) (l:List TW) (n qc:Nat) (la tw pd:Int) (now:Int) (w:World) (hn:l.length=n) (hl:n≤100000) (hcap:n≤qc) (hcm:qc≤maxLen) (hA:Wts w w.heap.size A l) (hP:∀ a∈l,a.w.m.pl.length≤1000000000):Calls Tryz.prog 58 #[.agg #[.int .i64 le, .int .i64 mo, .int .i64 nw, .bool on, .int .i64 ze, .int .i64 fi, .int .i64 hi, .int .i64 dn, .int .i64 sp, .int .i64 tr, .slice A n qc, .int .i64 la, .int .i64 tw, .int .i64 pd], .int .i64 now] w (JRunX l ⟨le,mo,nw,on,ze,fi,hi,dn,sp,tr,l.map TW.w,la,tw,pd⟩ now w):=by
 subst hn
 obtain ⟨r,hr⟩:∃ r,r=Jb.chk ⟨le,mo,nw,on,ze,fi,hi,dn,sp,tr,l.map TW.w,la,tw,pd⟩ now true:=⟨_,rfl⟩
 have HR:=H9 hr
 have k1:=H9 fun (W:World) (hW:Bel w W)=>zed le mo nw on ze fi hi dn sp tr A l l.length qc la tw pd now true W rfl hl ((hA.below hW).more hW.size) hP r hr
 have U0:=H9 (((Bel.refl w).push (.cells #[.int .i64 le, .int .i64 mo, .int .i64 nw, .bool on, .int .i64 ze, .int .i64 fi, .int .i64 hi, .int .i64 dn, .int .i64 sp, .int .i64 tr, .slice A l.length qc, .int .i64 la, .int .i64 tw, .int .i64 pd] 40)).push (.cells #[.int .i64 0, .int .i64 0, .int .i64 0, .bool false, .int .i64 0, .int .i64 0, .int .i64 0, .int .i64 0, .int .i64 0, .int .i64 0, .slice none 0 0, .int .i64 0, .int .i64 0, .int .i64 0] 40))
 have BS:=H9 ((Blk.new w 40 #[.int .i64 le, .int .i64 mo, .int .i64 nw, .bool on, .int .i64 ze, .int .i64 fi, .int .i64 hi, .int .i64 dn, .int .i64 sp, .int .i64 tr, .slice A l.length qc, .int .i64 la, .int .i64 tw, .int .i64 pd]).push (.cells #[.int .i64 0, .int .i64 0, .int .i64 0, .bool false, .int .i64 0, .int .i64 0, .int .i64 0, .int .i64 0, .int .i64 0, .int .i64 0, .slice none 0 0, .int .i64 0, .int .i64 0, .int .i64 0] 40))
 have BR:=H9 (Blk.new1 w (.cells #[.int .i64 le, .int .i64 mo, .int .i64 nw, .bool on, .int .i64 ze, .int .i64 fi, .int .i64 hi, .int .i64 dn, .int .i64 sp, .int .i64 tr, .slice A l.length qc, .int .i64 la, .int .i64 tw, .int .i64 pd] 40) 40 #[.int .i64 0, .int .i64 0, .int .i64 0, .bool false, .int .i64 0, .int .i64 0, .int .i64 0, .int .i64 0, .int .i64 0, .int .i64 0, .slice none 0 0, .int .i64 0, .int .i64 0, .int .i64 0])
 have HA:=H9 hA
 clear hr hA hP
 by_cases hr0:r=0
 rotate_left
 · have hne:(r != 0)=true:=by simpa using hr0
   have HN:=H9 hr0
   clear hr0
   go_enter Tryz.func58,Tryz.ntmps58
   go_wp2_with fail
   refine (k1.out _ U0.out).mono ?_
   rintro e w1 ⟨rfl,hb1⟩
   have U1:=H9 (U0.out.later hb1)
   have BS1:=H9 (BS.out.later hb1)
   have BR1:=H9 (BR.out.later hb1)
   have hs1:=BR1.out.lt
   clear hb1
   obtain ⟨s0,s1,s2,s3,s4,s5,s6,s7,s8,s9,s10,s11,s12,s13⟩:=Blk.c14 BS1.out
   go_wp2_with fail
   refine (k1.out _ U1.out).mono ?_
   rintro e w2 ⟨rfl,hb2⟩
   have U2:=H9 (U1.out.later hb2)
   have BR2:=H9 (BR1.out.later hb2)
   clear hb2 s0 s1 s2 s3 s4 s5 s6 s7 s8 s9 s10 s11 s12 s13
   obtain ⟨r0,r1,r2,r3,r4,r5,r6,r7,r8,r9,r10,r11,r12,r13⟩:=Blk.c14 BR2.out
   have rfz:=BR2.out.frozen
   go_wp2_with fail
   have BF:=Blk.setRow BR2.out [.int .i64 0, .int .i64 0, .int .i64 0, .bool false, .int .i64 0, .int .i64 0, .int .i64 0, .int .i64 0, .int .i64 0, .int .i64 0, .slice none 0 0, .int .i64 0, .int .i64 0, .int .i64 0] rfl
   have UF:=below_setRow (g:=w.heap.size+1) (by omega) [.int .i64 0, .int .i64 0, .int .i64 0, .bool false, .int .i64 0, .int .i64 0, .int .i64 0, .int .i64 0, .int .i64 0, .int .i64 0, .slice none 0 0, .int .i64 0, .int .i64 0, .int .i64 0] _ 0 U2.out
   simp only [setRow,Nat.zero_add,Nat.reduceAdd] at BF UF
   have hrun:Jb.run ⟨le,mo,nw,on,ze,fi,hi,dn,sp,tr,l.map TW.w,la,tw,pd⟩ now=(Jb.Jt.none,[],r):=by unfold Jb.run;rw [← HR.out,if_neg HN.out]
   refine bodyPost_ret (v := .tuple #[.agg (List.toArray [.int .i64 0, .int .i64 0, .int .i64 0, .bool false, .int .i64 0, .int .i64 0, .int .i64 0, .int .i64 0, .int .i64 0, .int .i64 0, .slice none 0 0, .int .i64 0, .int .i64 0, .int .i64 0]), .slice none 0 0, .int .u8 r]) (zax Tryz.results58 rfl (run_loadVar_row (P:=Tryz.prog) _ _ _ _ _ _ _ BF Tryz.underlying40 rfl (by kernel_rfl)) rfl rfl) rfl ⟨none,0,[],none,0,[],?_,?_,?_,Wts.empty,Wts.empty,Nat.le_refl _,by unfold maxLen;omega,UF,fun h=>absurd h (Nat.lt_irrefl _),fun a ha=>(by cases ha),fun h=>absurd h (Nat.lt_irrefl _),fun a ha=>(by cases ha)⟩
   · rw [hrun];rfl
   · rw [hrun];rfl
   · rw [hrun];rfl
 subst hr0
 obtain ⟨hok,hnow,_,hlt⟩:=zew HR.out.symm
 obtain ⟨hl2,hpl⟩:=zhv (l:=l) hok rfl
 have hpd:=hok.2.2.1.2.2
 have hasc:=Jb.okQ.asc hok.2.2.2.2
 simp only at hpd hlt hasc
 obtain ⟨hpd0,hpd1⟩:=hpd
 have hrun:Jb.run ⟨le,mo,nw,on,ze,fi,hi,dn,sp,tr,l.map TW.w,la,tw,pd⟩ now=(Jb.run0 ⟨le,mo,nw,on,ze,fi,hi,dn,sp,tr,l.map TW.w,la,tw,pd⟩ now,Jb.due now (l.map TW.w),0):=by unfold Jb.run;rw [← HR.out,if_pos rfl]
 have HRUN:=H9 hrun
 have HD:=H9 (zsi (now:=now) hasc)
 clear hok hnow hlt hpl hrun hasc
 go_enter Tryz.func58,Tryz.ntmps58
 go_wp2_with fail
 refine (k1.out _ U0.out).mono ?_
 rintro e w1 ⟨rfl,hb1⟩
 have U1:=H9 (U0.out.later hb1)
 have BS1:=H9 (BS.out.later hb1)
 have BR1:=H9 (BR.out.later hb1)
 have hs1:=BR1.out.lt
 clear hb1
 obtain ⟨s0,s1,s2,s3,s4,s5,s6,s7,s8,s9,s10,s11,s12,s13⟩:=Blk.c14 BS1.out
 go_wp2_with fail
 have RS:RSt w w1 [.int .i64 le, .int .i64 mo, .int .i64 nw, .bool on, .int .i64 ze, .int .i64 fi, .int .i64 hi, .int .i64 dn, .int .i64 sp, .int .i64 tr, .slice A l.length qc, .int .i64 la, .int .i64 tw, .int .i64 pd] none 0 0 [] none 0 0 []:=⟨BS1.out,BR1.out,U1.out,Owns.nil,Owns.nil,rfl,rfl,(fun g e=>by cases e),by have:=BR1.out.lt;omega⟩
 have RS0:=H9 RS
 clear RS BS1 BR1 U1 k1 BS BR U0 s0 s1 s2 s3 s4 s5 s6 s7 s8 s9 s10 s11 s12 s13
 go_loopg [7,8,9] l.length (fun gk s7 s8 i wr => ∃ (k:Nat) (A1:Option Addr) (n1 c1:Nat) (A2:Option Addr) (n2 c2:Nat) (d:Int),gk+k=l.length∧s7 = .slice A1 n1 c1∧s8 = .slice A2 n2 c2∧i = .int .i64 k∧Hid (d=(Jb.maxSq dn (((l.take k).filter (dueT now)).map TW.w)))∧Hid (RSt w wr [.int .i64 le, .int .i64 mo, .int .i64 nw, .bool on, .int .i64 ze, .int .i64 fi, .int .i64 hi, .int .i64 d, .int .i64 sp, .int .i64 tr, .slice A l.length qc, .int .i64 la, .int .i64 tw, .int .i64 pd] A1 n1 c1 ((l.take k).filter (dueT now)) A2 n2 c2 ((l.take k).filter (fun a => !dueT now a))))
 case atStart=>exact ⟨0,none,0,0,none,0,0,dn,rfl,rfl,rfl,rfl,H9 rfl,RS0⟩
 case round =>
  obtain ⟨k,A1,n1,c1,A2,n2,c2,d,hgk,rfl,rfl,rfl,HDN,RS⟩:=hrel
  have hi0:(0:Int)≤(k:Int):=by omega
  have hwl:=RS.out.bs.lt
  have hn1:n1≤k:=by rw [← RS.out.len1];exact Nat.le_trans (List.length_filter_le _ _) (List.length_take_le _ _)
  have hn2:n2≤k:=by rw [← RS.out.len2];exact Nat.le_trans (List.length_filter_le _ _) (List.length_take_le _ _)
  obtain ⟨s0,s1,s2,s3,s4,s5,s6,s7,s8,s9,s10,s11,s12,s13⟩:=Blk.c14 RS.out.bs
  have sfz:=RS.out.bs.frozen
  by_cases hk:k<l.length
  rotate_left
  · obtain rfl:k=l.length:=by omega
    have hi1:(l.length:Int)≤(l.length:Int):=Int.le_refl _
    have hpx : -9223372036854775808≤pd+(n1:Int)∧pd+(n1:Int)≤9223372036854775807:=by omega
    obtain ⟨hp0,hp1⟩:=hpx
    obtain ⟨r0,r1,r2,r3,r4,r5,r6,r7,r8,r9,r10,r11,r12,r13⟩:=Blk.c14 RS.out.br
    have rfz:=RS.out.br.frozen
    have hlr:=RS.out.br.lt
    go_wp2_with fail
    have RF:RSt w _ [.int .i64 le, .int .i64 mo, .int .i64 now, .bool on, .int .i64 ze, .int .i64 fi, .int .i64 hi, .int .i64 d, .int .i64 sp, .int .i64 tr, .slice A2 n2 c2, .int .i64 la, .int .i64 tw, .int .i64 (pd+(n1:Int))] A1 n1 c1 _ A2 n2 c2 _:=((RS.out.set 10 (.slice A2 n2 c2)).set 13 (.int .i64 (pd+(n1:Int)))).set 2 (.int .i64 now)
    have hPP:∀ (p:TW→Bool),∀ a∈(l.take l.length).filter p,IntsAt w w.heap.size .u8 a.B a.w.m.pl:=fun p a ha=>HA.out.2 a (List.mem_of_mem_take (List.mem_filter.1 ha).1)
    obtain ⟨BF,F1,F2,F4,F5,UF⟩:=RF.fin [.int .i64 le, .int .i64 mo, .int .i64 now, .bool on, .int .i64 ze, .int .i64 fi, .int .i64 hi, .int .i64 d, .int .i64 sp, .int .i64 tr, .slice A2 n2 c2, .int .i64 la, .int .i64 tw, .int .i64 (pd+(n1:Int))] rfl (hPP _) (hPP _)
    simp only [setRow,Nat.zero_add,Nat.reduceAdd] at BF F1 F2 UF
    have hd:=HDN.out
    have hE1:=RS.out.len1
    have hE2:=RS.out.len2
    rw [List.take_length] at F1 F2 hd hE1 hE2
    obtain ⟨D1,D2⟩:=HD.out
    have hR0:Jb.run0 ⟨le,mo,nw,on,ze,fi,hi,dn,sp,tr,l.map TW.w,la,tw,pd⟩ now=⟨le,mo,now,on,ze,fi,hi,d,sp,tr,Jb.left now (l.map TW.w),la,tw,pd+(n1:Int)⟩:=by
     unfold Jb.run0
     rw [hd,D1,← hE1,← D1,List.length_map]
    refine bodyPost_ret (v := .tuple #[.agg (List.toArray [.int .i64 le, .int .i64 mo, .int .i64 now, .bool on, .int .i64 ze, .int .i64 fi, .int .i64 hi, .int .i64 d, .int .i64 sp, .int .i64 tr, .slice A2 n2 c2, .int .i64 la, .int .i64 tw, .int .i64 (pd+(n1:Int))]), .slice A1 n1 c1, .int .u8 0]) (zax Tryz.results58 rfl (run_loadVar_row (P:=Tryz.prog) _ _ _ _ _ _ _ BF Tryz.underlying40 rfl (by kernel_rfl)) rfl rfl) rfl ⟨A1,c1,l.filter (dueT now),A2,c2,l.filter (fun a => !dueT now a),?_,?_,?_,F1,F2,by rw [hE2];exact F4,F5,UF,zpw RF.o1 (by omega) _,fun a ha=>(List.mem_filter.1 ha).1,zpw RF.o2 (by omega) _,fun a ha=>(List.mem_filter.1 ha).1⟩
    · rw [HRUN.out,hR0,hE1,hE2];rfl
    · rw [HRUN.out];exact D1
    · rw [HRUN.out,hR0];exact D2
  have hi1:(k:Int)<(l.length:Int):=by omega
  obtain ⟨a,ha⟩:∃ a,l[k]? = some a:=⟨_,List.getElem?_eq_getElem hk⟩
  obtain ⟨b,off,rfl,hbB,e0,e1,e2,e3,e4,e5⟩:=zbs (HA.out.1.keep (fun p hp=>RS.out.u.cell hp)) ha
  have HT1:=H9 (zmb ha (dueT now))
  have HT2:=H9 (zmb ha (fun a => !dueT now a))
  obtain ⟨⟨at0,⟨sq0,ti0,mk0,ty0,pl0⟩⟩,B0,c0⟩:=a
  simp only at e0 e1 e2 e3 e4 e5
  have hbw:b<wr.heap.size:=by have:=RS.out.u.size;omega
  clear ha
  by_cases c:at0≤now
  · have hat0:at0≤now:=c
    have HDUE:Hid (dueT now ⟨⟨at0,⟨sq0,ti0,mk0,ty0,pl0⟩⟩,B0,c0⟩=true):=H9 (by unfold dueT;simpa using c)
    clear c
    go_wp2_with (at_builtin;go_loud (refine zaq rfl _ _ 38 rfl (w.heap.size+1+1) 105 6 56 (.agg #[.int .i64 0, .int .i64 0, .int .i64 0, .bool false, .int .u8 0, .slice none 0 0]) Tryz.underlying38 zbt rfl (by decide) A1 n1 c1 _ rfl RS.out.o1 [.int .i64 at0, .int .i64 sq0, .int .i64 ti0, .bool mk0, .int .u8 ty0, .slice B0 pl0.length c0] rfl (by simp [Value.oneCell']) rfl (by unfold maxLen;omega) (by omega) RS.out.hB ?_);intro An cn wn qo hgr hat)
    have RS2:RSt w wn [.int .i64 le, .int .i64 mo, .int .i64 nw, .bool on, .int .i64 ze, .int .i64 fi, .int .i64 hi, .int .i64 d, .int .i64 sp, .int .i64 tr, .slice (some ⟨b,off,none⟩) l.length qc, .int .i64 la, .int .i64 tw, .int .i64 pd] An (n1+1) cn (((l.take k).filter (dueT now)) ++ [⟨⟨at0,⟨sq0,ti0,mk0,ty0,pl0⟩⟩,B0,c0⟩]) A2 n2 c2 ((l.take k).filter (fun a => !dueT now a)):=RS.out.one qo hgr hat
    have HRS2:=H9 RS2
    have hwl2:=RS2.bs.lt
    obtain ⟨f0,f1,f2,f3,f4,f5⟩:wn.cell? ⟨b,off+k*6,none⟩=some (.int .i64 at0)∧wn.cell? ⟨b,off+k*6+1,none⟩=some (.int .i64 sq0)∧wn.cell? ⟨b,off+k*6+2,none⟩=some (.int .i64 ti0)∧wn.cell? ⟨b,off+k*6+3,none⟩=some (.bool mk0)∧wn.cell? ⟨b,off+k*6+4,none⟩=some (.int .u8 ty0)∧wn.cell? ⟨b,off+k*6+5,none⟩=some (.slice B0 pl0.length c0):=by
     have hx:some b≠ownB A1:=fun e=>by have:=(RS.out.o1.block b e.symm).1;omega
     exact ⟨hgr.cell e0 hx,hgr.cell e1 hx,hgr.cell e2 hx,hgr.cell e3 hx,hgr.cell e4 hx,hgr.cell e5 hx⟩
    clear RS2 qo hgr hat e0 e1 e2 e3 e4 e5 s0 s1 s2 s3 s4 s5 s6 s7 s8 s9 s10 s11 s12 s13 sfz
    obtain ⟨s0,s1,s2,s3,s4,s5,s6,s7,s8,s9,s10,s11,s12,s13⟩:=Blk.c14 HRS2.out.bs
    have sfz:=HRS2.out.bs.frozen
    go_wp2_with fail
    go_region
    all_goals
     go_wp2_with fail
     go_roundg (gk-1)
     case measure=>omega
     case rel =>
      refine ⟨k+1,An,n1+1,cn,A2,n2,c2,max d sq0,by omega,rfl,rfl,by go_num,H9 ?_,H9 ?_⟩
      · rw [HT1.out.1 HDUE.out,List.map_append,List.map_singleton,zke,← HDN.out]
      · rw [HT1.out.1 HDUE.out,HT2.out.2 (by simp only [HDUE.out];rfl)]
        exact (HRS2.out.drewN _).set 7 (.int .i64 (max d sq0))
  · have hat0:now<at0:=Int.not_le.1 c
    have HDUE:Hid (dueT now ⟨⟨at0,⟨sq0,ti0,mk0,ty0,pl0⟩⟩,B0,c0⟩=false):=H9 (by unfold dueT;simpa using c)
    clear c
    go_wp2_with (at_builtin;go_loud (refine zaq rfl _ _ 38 rfl (w.heap.size+1+1) 105 6 56 (.agg #[.int .i64 0, .int .i64 0, .int .i64 0, .bool false, .int .u8 0, .slice none 0 0]) Tryz.underlying38 zbt rfl (by decide) A2 n2 c2 _ rfl RS.out.o2 [.int .i64 at0, .int .i64 sq0, .int .i64 ti0, .bool mk0, .int .u8 ty0, .slice B0 pl0.length c0] rfl (by simp [Value.oneCell']) rfl (by unfold maxLen;omega) (by omega) RS.out.hB ?_);intro An cn wn qo hgr hat)
    have RS2:RSt w wn [.int .i64 le, .int .i64 mo, .int .i64 nw, .bool on, .int .i64 ze, .int .i64 fi, .int .i64 hi, .int .i64 d, .int .i64 sp, .int .i64 tr, .slice (some ⟨b,off,none⟩) l.length qc, .int .i64 la, .int .i64 tw, .int .i64 pd] A1 n1 c1 ((l.take k).filter (dueT now)) An (n2+1) cn (((l.take k).filter (fun a => !dueT now a)) ++ [⟨⟨at0,⟨sq0,ti0,mk0,ty0,pl0⟩⟩,B0,c0⟩]):=(RS.out.swap.one qo hgr hat).swap
    have HRS2:=H9 RS2
    clear RS2 qo hgr hat
    go_wp2_with fail
    go_roundg (gk-1)
    case measure=>omega
    case rel =>
     refine ⟨k+1,A1,n1,c1,An,n2+1,cn,d,by omega,rfl,rfl,by go_num,H9 ?_,H9 ?_⟩
     · rw [HT1.out.2 HDUE.out,← HDN.out]
     · rw [HT1.out.2 HDUE.out,HT2.out.1 (by simp only [HDUE.out];rfl)]
       exact HRS2.out
end Go.Proofs.YtahbecinkciahaaGreat
namespace Go.Proofs.YtahbecinkciahaaGreat
open Go.RowKit
section
variable {P:Program} {w:World} {α : Type}
theorem ziv {row : α → List Value} {size:Nat} (hrow:∀ a,(row a).length=size):∀ (l:List α) (j:Nat) (u:Value),(l.flatMap row)[j]? = some u→∃ (i k:Nat) (a : α),l[i]? = some a∧(row a)[k]? = some u∧j=i*size+k
 | [],j,u,h=>by simp at h
 | a :: l, j, u, h => by
   rw [List.flatMap_cons] at h
   by_cases hj:j<size
   · rw [List.getElem?_append_left (by rw [hrow];exact hj)] at h
     exact ⟨0,j,a,rfl,h,by omega⟩
   · rw [List.getElem?_append_right (by rw [hrow];omega),hrow] at h
     obtain ⟨i,k,b,hi,hk,e⟩:=ziv hrow l _ u h
     exact ⟨i+1,k,b,by simpa using hi,hk,by rw [Nat.add_mul];omega⟩
theorem zsj (b off j:Nat):(⟨b,off,none⟩:Addr).add j=⟨b,off+j,none⟩:=by
 unfold Addr.add
 split<;>simp_all
theorem znn {row : α → List Value} {size B:Nat} (hrow:∀ a,(row a).length=size) {ad:Addr} {l:List α} (hr:RowsAt w B size row (some ad) l):∀ (j:Nat) (u:Value),(l.flatMap row)[j]? = some u→w.cell? (ad.add j)=some u:=by
 intro j u hu
 obtain ⟨i,k,a,hi,hk,rfl⟩:=ziv hrow l j u hu
 obtain ⟨b,off,e,_,hc⟩:=hr (by have:=(List.getElem?_eq_some_iff.1 hi).1;omega)
 injection e with e
 subst e
 rw [zsj,← Nat.add_assoc]
 exact hc i a hi k u hk
theorem ziw {row : α → List Value} {size:Nat} (hrow:∀ a,(row a).length=size):∀ l:List α, (l.flatMap row).length=l.length*size
 | []=>by simp
 | a::l=>by rw [List.flatMap_cons,List.length_append,hrow,ziw hrow l,List.length_cons,Nat.add_mul];omega
theorem zfj (base:Nat) (t ty e:TypeId) (z:Value) (size bytes:Nat) (ht:P.underlying t=some (.slice e)) (hinfo:(P.info? e).map (fun i=>(i.zero,i.size,i.bytes))=some (some z,size,bytes)) (hzs:z.cells.size=size) (hsz:0<size)
 (v:Value) (n:Nat) (xs:List Value) (qo:w.ownsRow base e size v n xs)
 (B:Nat) (row : α → List Value) (hrow:∀ a,(row a).length=size) (hone:∀ a,∀ u∈row a,u.oneCell'=true) (A:Option Addr) (c:Nat) (l:List α) (hr:RowsAt w B size row A l) (h63:n+l.length≤maxLen) (hbytes:(n+l.length)*bytes≤140737488355328) (hbase:base≤w.heap.size) :
 ∃ A' c' w',(Builtin.append_ #[t,t] ty #[v, .slice A l.length c]).run P w = .ok (.slice A' (n+l.length) c') w'∧Owns w' base e size A' (n+l.length) c' (xs++l.flatMap row)∧w.grownBy w' v.ownBlock ∧
  (ownB A'=v.ownBlock∨ownB A'=some w.heap.size):=by
 obtain ⟨i,hi,hz0,hz1,hz2⟩:=info_parts hinfo
 have fin:∀ v' w',(Builtin.append_ #[t,t] ty #[v, .slice A l.length c]).run P w = .ok v' w'→w'.ownsRow base e size v' (n+l.length) (xs++l.flatMap row)→w.grownBy w' v.ownBlock→(v'.ownBlock=v.ownBlock∨v'.ownBlock=some w.heap.size) →
  ∃ A' c' w',(Builtin.append_ #[t,t] ty #[v, .slice A l.length c]).run P w = .ok (.slice A' (n+l.length) c') w'∧Owns w' base e size A' (n+l.length) c' (xs++l.flatMap row)∧w.grownBy w' v.ownBlock∧(ownB A'=v.ownBlock∨ownB A'=some w.heap.size):=by
  intro v' w' h1 h2 h3 h4
  obtain ⟨A',c',rfl⟩:=zmg h2
  rw [zbz] at h4
  exact ⟨A',c',w',h1,h2,h3,h4⟩
 rcases A with _|ad
 · have hz:l=[]:=by
    rcases Nat.eq_zero_or_pos l.length with h0|h0
    · exact List.eq_nil_of_length_eq_zero h0
    · obtain ⟨b,off,h,_⟩:=hr h0
      cases h
   subst hz
   exact fin v w (zdf base t ty e i size ht hi v n xs qo none c rfl) (by simpa using qo) (World.grownBy.refl w _) (.inl rfl)
 · obtain ⟨v',w',hrun,h2,h3,_,h5⟩:=run_append_own_at (P:=P) w base t ty e i z size bytes ht hi hz0 hz1 hz2 hzs hsz v n xs qo ad l.length c (l.flatMap row) (ziw hrow l) (znn hrow hr) (by
    intro u hu
    obtain ⟨x,_,hx⟩:=List.mem_flatMap.1 hu
    exact hone x u hx) h63 hbytes hbase
   exact fin v' w' hrun h2 h3 h5
theorem zbb {ops:Array Oper} {rest:List Oper} {o:Oper} {a:Act} {Q:Exit→Act→World→Prop} (hgd:o.guard=none) (s x:Operand) (t:TypeId)
 (ho:o.op = .call { callee := .builtin .append,args := #[s,x],argTypes := #[t,t] })
 (base:Nat) (e:TypeId) (size bytes:Nat) (z:Value) (ht:P.underlying t=some (.slice e)) (hinfo:(P.info? e).map (fun i=>(i.zero,i.size,i.bytes))=some (some z,size,bytes)) (hzs:z.cells.size=size) (hsz:0<size)
 (A0:Option Addr) (n c0:Nat) (xs:List Value) (hs:a.eval s = .slice A0 n c0) (qo:Owns w base e size A0 n c0 xs)
 (B:Nat) (row : α → List Value) (hrow:∀ a,(row a).length=size) (hone:∀ a,∀ u∈row a,u.oneCell'=true) (A:Option Addr) (k c:Nat) (l:List α) (hx:a.eval x = .slice A k c) (hr:RowsAt w B size row A l) (hk:l.length=k) (h63:n+l.length≤maxLen) (hbytes:(n+l.length)*bytes≤140737488355328) (hbase:base≤w.heap.size) (m:Nat) (hm:n+l.length=m)
 (h:∀ (A':Option Addr) (c':Nat) (w':World),Owns w' base e size A' m c' (xs++l.flatMap row)→w.grownBy w' (ownB A0)→(ownB A'=ownB A0∨ownB A'=some w.heap.size)→wpList P ops Q rest (a.put o.dst (.slice A' m c')) w') :
 wpList P ops Q (o::rest) a w:=by
 subst hm hk
 obtain ⟨A',c',w',hrun,h2,h3,h4⟩:=zfj (P:=P) base t o.type e z size bytes ht hinfo hzs hsz (.slice A0 n c0) n xs qo B row hrow hone A c l hr h63 hbytes hbase
 rw [zbz] at h3 h4
 refine wpList_plain hgd fun K hK => ?_
 unfold Oper.wp execOp
 simp only [ho,resolve,invoke,builtin,Sem.run_bind,Sem.run_pure,Result.andThen_ok,List.map_toArray,List.map_cons,List.map_nil,hs,hx,hrun]
 exact hK _ _ (h A' c' w' h2 h3 h4)
theorem RowsAt.drop {row : α → List Value} {size B:Nat} {b off:Nat} {l:List α} (h:RowsAt w B size row (some ⟨b,off,none⟩) l) (n:Nat):RowsAt w B size row (some ⟨b,off+n*size,none⟩) (l.drop n):=fun h0=>by
 obtain ⟨b',off',e,hb,hc⟩:=h (by simp at h0;omega)
 injection e with e
 injection e with e1 e2
 subst e1 e2
 refine ⟨b,off+n*size,rfl,hb,fun i a hi j v hv => ?_⟩
 rw [List.getElem?_drop] at hi
 have:=hc (n+i) a hi j v hv
 rwa [Nat.add_mul,← Nat.add_assoc] at this
theorem RowsAt.nil' {row : α → List Value} {size B:Nat} {A:Option Addr} {l:List α} (h:l.length=0):RowsAt w B size row A l:=fun h0=>by omega
end
end Go.Proofs.YtahbecinkciahaaGreat
namespace Go.Proofs.YtahbecinkciahaaGreat
attribute [local go_sem ↓] zae zaf
attribute [local go_sem] zad zag
open Go.RowKit
def befB (x a:TW):Bool:=decide (Jb.bef a.w x.w)
def insT (l:List TW) (x:TW):List TW:=l.takeWhile (befB x)++x::l.dropWhile (befB x)
theorem zsk (l:List TW) (x:TW):(insT l x).map TW.w=Jb.ins (l.map TW.w) x.w:=by
 unfold insT Jb.ins
 rw [List.takeWhile_map,List.dropWhile_map,List.map_append,List.map_cons]
 rfl
theorem zfk (p:TW→Bool):∀ l:List TW,l.takeWhile p=l.take (l.takeWhile p).length∧l.dropWhile p=l.drop (l.takeWhile p).length∧(l.takeWhile p).length≤l.length∧(∀ k a,k<(l.takeWhile p).length→l[k]? = some a→p a=true)∧(∀ a,l[(l.takeWhile p).length]? = some a→p a=false)
 | []=>by simp
 | b :: l => by
   obtain ⟨h1,h2,h3,h4,h5⟩:=zfk p l
   by_cases hb:p b=true
   · simp only [List.takeWhile_cons,List.dropWhile_cons,hb,if_true,List.length_cons,List.take_succ_cons,List.drop_succ_cons]
     refine ⟨by rw [← h1],h2,by omega,fun k a hk ha => ?_,fun a ha=>h5 a (by simpa using ha)⟩
     rcases k with _|k
     · simp at ha;rw [← ha];exact hb
     · exact h4 k a (by omega) (by simpa using ha)
   · have hb':p b=false:=by simpa using hb
     simp only [List.takeWhile_cons,List.dropWhile_cons,hb',if_false,List.length_nil,List.take_zero,List.drop_zero]
     refine ⟨by simp,by simp,by simp,fun k a hk=>by simp at hk,fun a ha => ?_⟩
     simp at ha
     rw [← ha];exact hb'
theorem zdp (a:TW):(TW.row a).length=6:=rfl
theorem zdq (a:TW):∀ u∈TW.row a,u.oneCell'=true:=by
 intro u hu
 simp [TW.row] at hu
 rcases hu with rfl|rfl|rfl|rfl|rfl|rfl<;>rfl
structure ISt (w W:World) (xr:List Value) (A:Option Addr) (n c:Nat) (l:List TW):Prop where
 bx:Blk W w.heap.size 105 xr.toArray
 u:Bel w W
 own:Owns W (w.heap.size+1) 105 6 A n c (l.flatMap TW.row)
 hB:w.heap.size+1≤W.heap.size
theorem ISt.later {w W W':World} {xr:List Value} {A:Option Addr} {n c:Nat} {l:List TW} (h:ISt w W xr A n c l) (hb:Below W.heap.size W W'):ISt w W' xr A n c l:=⟨h.bx.later hb,h.u.later hb,h.own.below hb,Nat.le_trans h.hB hb.size⟩
theorem ISt.one {w W W':World} {xr:List Value} {A An:Option Addr} {n m c cn:Nat} {l l2:List TW} (h:ISt w W xr A n c l) (ho:Owns W' (w.heap.size+1) 105 6 An m cn (l.flatMap TW.row++l2.flatMap TW.row)) (hg:W.grownBy W' (ownB A)):ISt w W' xr An m cn (l++l2):=by
 have hge:∀ g,ownB A=some g→w.heap.size+1≤g:=fun g e=>(h.own.block g e).1
 exact ⟨h.bx.grown hg (fun e=>by have:=hge _ e.symm;omega),h.u.grown hg (by have:=h.hB;omega) (fun g e=>by have:=hge g e;omega),by rw [List.flatMap_append];exact ho,Nat.le_trans h.hB hg.size⟩
theorem ISt.drewN {w W:World} {xr:List Value} {A:Option Addr} {n c:Nat} {l:List TW} (h:ISt w W xr A n c l):∀ k,ISt w (W.drewN k) xr A n c l
 | 0=>h
 | k+1=>(h.drewN k).later (Below.refl _ _).drew
theorem zsl (l:List TW) (x:TW):(insT l x).length=l.length+1:=by
 have h:=congrArg List.length (List.takeWhile_append_dropWhile (p:=befB x) (l:=l))
 unfold insT
 simp only [List.length_append,List.length_cons] at h ⊢
 omega
theorem zmc {l:List TW} {x a:TW} (h:a∈insT l x):a=x∨a∈l:=by
 unfold insT at h
 rcases List.mem_append.1 h with h|h
 · exact .inr ((List.takeWhile_sublist _).subset h)
 · rcases List.mem_cons.1 h with h|h
   · exact .inl h
   · exact .inr ((List.dropWhile_sublist _).subset h)
def RInsR (l:List TW) (x:TW) (w:World) (e:Ending) (w':World):Prop :=
 ∃ (A':Option Addr) (c':Nat),e = .returned (.slice A' (l.length+1) c')∧Owns w' (w.heap.size+1) 105 6 A' (l.length+1) c' ((insT l x).flatMap TW.row)∧Below w.heap.size w w'
theorem zpy (bA oA:Nat) (l:List TW) (n c:Nat) (xa xs xt:Int) (xm:Bool) (xy:Int) (XB:Option Addr) (xp:List Int) (xc:Nat) (w:World) (hn:l.length=n) (hl:n≤1000) (hcap:n≤c) (hcm:c≤maxLen) (hA:RowsAt w w.heap.size 6 TW.row (some ⟨bA,oA,none⟩) l) (hcp:¬c=(l.takeWhile (befB ⟨⟨xa,⟨xs,xt,xm,xy,xp⟩⟩,XB,xc⟩)).length):Calls Tryz.prog 120 #[.slice (some ⟨bA,oA,none⟩) n c, .agg #[.int .i64 xa, .int .i64 xs, .int .i64 xt, .bool xm, .int .u8 xy, .slice XB xp.length xc]] w (RInsR l ⟨⟨xa,⟨xs,xt,xm,xy,xp⟩⟩,XB,xc⟩ w):=by
 subst hn
 obtain ⟨w1,w2,w3,w4,w5⟩:=zfk (befB ⟨⟨xa,⟨xs,xt,xm,xy,xp⟩⟩,XB,xc⟩) l
 generalize hp:(l.takeWhile (befB ⟨⟨xa,⟨xs,xt,xm,xy,xp⟩⟩,XB,xc⟩)).length=p at w1 w2 w3 w4 w5 hcp
 have HA:=H9 hA
 have H4:=H9 w4
 have H5:=H9 w5
 have hins:insT l ⟨⟨xa,⟨xs,xt,xm,xy,xp⟩⟩,XB,xc⟩=l.take p++(⟨⟨xa,⟨xs,xt,xm,xy,xp⟩⟩,XB,xc⟩::l.drop p):=by unfold insT;rw [← w1,← w2]
 have HI:=H9 hins
 clear hA w1 w2 w4 w5 hp hins
 unfold maxLen at hcm
 have IS0:Hid (ISt w (w.alloc (.cells #[.int .i64 xa, .int .i64 xs, .int .i64 xt, .bool xm, .int .u8 xy, .slice XB xp.length xc] 105)) [.int .i64 xa, .int .i64 xs, .int .i64 xt, .bool xm, .int .u8 xy, .slice XB xp.length xc] none 0 0 []):=H9 ⟨Blk.new w _ _,(Bel.refl w).push _,Owns.nil,by simp⟩
 go_enter Tryz.func120,Tryz.ntmps120
 go_wp2_with fail
 go_loopg [5,6] p (fun gk s5 i wr => ∃ (k:Nat) (A1:Option Addr) (c1:Nat),gk+k=p∧s5 = .slice A1 k c1∧i = .int .i64 k∧Hid (ISt w wr [.int .i64 xa, .int .i64 xs, .int .i64 xt, .bool xm, .int .u8 xy, .slice XB xp.length xc] A1 k c1 (l.take k)))
 case atStart=>exact ⟨0,none,0,rfl,rfl,rfl,IS0⟩
 case round =>
  obtain ⟨k,A1,c1,hgk,rfl,rfl,IS⟩:=hrel
  have hi0:(0:Int)≤(k:Int):=by omega
  have hwl:=IS.out.bx.lt
  have x0:=IS.out.bx.at 0 _ rfl
  have x1:=IS.out.bx.at 1 _ rfl
  have x2:=IS.out.bx.at 2 _ rfl
  have x3:=IS.out.bx.at 3 _ rfl
  have x4:=IS.out.bx.at 4 _ rfl
  have x5:=IS.out.bx.at 5 _ rfl
  by_cases hk:k<l.length
  · have hi1:(k:Int)<(l.length:Int):=by omega
    have hd1:decide ((k:Int)<(l.length:Int))=true:=by rw [decide_eq_true_iff];exact hi1
    have hd2:decide (k<l.length)=true:=by rw [decide_eq_true_iff];exact hk
    have HD1:=H9 hd1
    have HD2:=H9 hd2
    have hU:Below wr.heap.size wr wr:=Below.refl _ _
    clear hd1 hd2
    obtain ⟨a,ha⟩:∃ a,l[k]? = some a:=⟨_,List.getElem?_eq_getElem hk⟩
    obtain ⟨b,off,hbo,hbB,e0,e1,e2,e3,e4,e5⟩:=zbs (HA.out.keep (fun p hp=>IS.out.u.cell hp)) ha
    injection hbo with hbo
    injection hbo with hbo1 hbo2
    subst hbo1 hbo2
    have HTK:Hid (l.take (k+1)=l.take k ++ [a]):=H9 (by rw [List.take_add_one,ha];rfl)
    have HBF:Hid (k<p→befB ⟨⟨xa,⟨xs,xt,xm,xy,xp⟩⟩,XB,xc⟩ a=true):=H9 (fun h=>H4.out k a h ha)
    have HBG:Hid (k=p→befB ⟨⟨xa,⟨xs,xt,xm,xy,xp⟩⟩,XB,xc⟩ a=false):=H9 (fun h=>H5.out a (by rw [← h];exact ha))
    obtain ⟨⟨at0,⟨sq0,ti0,mk0,ty0,pl0⟩⟩,B0,c0⟩:=a
    simp only at e0 e1 e2 e3 e4 e5
    have hbwr:bA<wr.heap.size:=by have:=IS.out.u.size;omega
    clear ha
    by_cases hkp:k<p
    · have k2:=H9 fun W=>zdb at0 sq0 ti0 ty0 xa xs xt xy mk0 xm B0 XB pl0.length c0 xp.length xc W true (by have h9:=HBF.out hkp;unfold befB Jb.bef at h9;exact h9.symm)
      go_wp2_with fail
      refine wp_region_held_drew (S:=fun w'=>Below wr.heap.size wr w'∧w'.cell? ⟨w.heap.size,0,none⟩=some (.int .i64 xa)∧w'.cell? ⟨w.heap.size,1,none⟩=some (.int .i64 xs)∧w'.cell? ⟨w.heap.size,2,none⟩=some (.int .i64 xt)∧w'.cell? ⟨w.heap.size,3,none⟩=some (.bool xm)∧w'.cell? ⟨w.heap.size,4,none⟩=some (.int .u8 xy)∧w'.cell? ⟨w.heap.size,5,none⟩=some (.slice XB xp.length xc)∧w'.cell? ⟨bA,oA+k*6,none⟩=some (.int .i64 at0)∧w'.cell? ⟨bA,oA+k*6+1,none⟩=some (.int .i64 sq0)∧w'.cell? ⟨bA,oA+k*6+2,none⟩=some (.int .i64 ti0)∧w'.cell? ⟨bA,oA+k*6+3,none⟩=some (.bool mk0)∧w'.cell? ⟨bA,oA+k*6+4,none⟩=some (.int .u8 ty0)∧w'.cell? ⟨bA,oA+k*6+5,none⟩=some (.slice B0 pl0.length c0)) (by kernel_rfl) ?_ (fun qH => ?_)
      · (first|assumption|((try go_split_ands);refine zav ?_ (fun hbX=>⟨zaa hbX x0,zaa hbX x1,zaa hbX x2,zaa hbX x3,zaa hbX x4,zaa hbX x5,zaa hbX e0,zaa hbX e1,zaa hbX e2,zaa hbX e3,zaa hbX e4,zaa hbX e5⟩);(with_reducible repeat first|assumption|exact zai (by assumption) (by assumption)|refine Below.drew ?_|refine zaj ?_ _)))
      iterate 10
       first
        | (refine tkN 12 (v := ?_) rfl rfl (Or.inl ⟨by rfl, ?_⟩) (by assumption) ?_
           rotate_left
           · (intro w hSw;(try dsimp only at hSw);go_simp;try with_reducible rfl))
        | refine tkN 12 (v:=undef) rfl rfl (Or.inr ⟨by rfl,rfl⟩) (by assumption) ?_
       try simp only [List.getElem_toArray,List.getElem_cons_zero,List.getElem_cons_succ,Act.put,List.setIfInBounds_toArray,List.set_cons_zero,List.set_cons_succ,HD1.out,HD2.out]
      refine wpAnyH_ready (rs:=[10]) (by kernel_rfl) (by simp) ?_
      refine AllReadyH.cons (o:=_) rfl (fun K hK => ?_) ?_
      rotate_left
      · exact AllReadyH.nil
      go_simp
      (go_at_call 156;refine (k2.out _).mono ?_;rintro e w' ⟨rfl,qb⟩;have hbw:Below wr.heap.size wr w':=zai qb (by (try go_split_ands);assumption);obtain ⟨hcc,hff⟩:=zdc qb)
      refine hK.out _ _ ?_ (fun qH => ?_)
      · (try dsimp only)
        (first|assumption|((try go_split_ands);refine zav ?_ (fun hbX=>⟨zaa hbX x0,zaa hbX x1,zaa hbX x2,zaa hbX x3,zaa hbX x4,zaa hbX x5,zaa hbX e0,zaa hbX e1,zaa hbX e2,zaa hbX e3,zaa hbX e4,zaa hbX e5⟩);(with_reducible repeat first|assumption|exact zai (by assumption) (by assumption)|refine Below.drew ?_|refine zaj ?_ _)))
      clear hK K
      try simp only [List.getElem_toArray,List.getElem_cons_zero,List.getElem_cons_succ,Act.put,List.setIfInBounds_toArray,List.set_cons_zero,List.set_cons_succ,HD1.out,HD2.out]
      first
       | (refine tk1 (i := 11) (v := ?_) rfl (Or.inl ⟨by rfl, ?_⟩) (by assumption) ?_
          rotate_left
          · (intro w hSw;(try dsimp only at hSw);go_simp;try with_reducible rfl))
       | refine tk1 (i:=11) (v:=undef) rfl (Or.inr ⟨by rfl,rfl⟩) (by assumption) ?_
      try simp only [List.getElem_toArray,List.getElem_cons_zero,List.getElem_cons_succ,Act.put,List.setIfInBounds_toArray,List.set_cons_zero,List.set_cons_succ,HD1.out,HD2.out]
      refine wpAnyH_done (by kernel_rfl) ?_ _
      all_goals
       have IS2:=H9 (IS.out.later hbw)
       have f0:=zaa hbw e0
       have f1:=zaa hbw e1
       have f2:=zaa hbw e2
       have f3:=zaa hbw e3
       have f4:=zaa hbw e4
       have f5:=zaa hbw e5
       clear hcc hff qb e0 e1 e2 e3 e4 e5 x0 x1 x2 x3 x4 x5 hU
       have hbwe:bA<w'.heap.size:=Nat.lt_of_lt_of_le hbwr hbw.size
       go_wp2_with (at_builtin;go_loud (refine zaq rfl _ _ 38 rfl (w.heap.size+1) 105 6 56 (.agg #[.int .i64 0, .int .i64 0, .int .i64 0, .bool false, .int .u8 0, .slice none 0 0]) Tryz.underlying38 zbt rfl (by decide) A1 k c1 _ rfl IS2.out.own [.int .i64 at0, .int .i64 sq0, .int .i64 ti0, .bool mk0, .int .u8 ty0, .slice B0 pl0.length c0] rfl (by simp [Value.oneCell']) rfl (by unfold maxLen;omega) (by omega) IS2.out.hB ?_);intro An cn wn qo hgr hat)
       go_wp2_with fail
       go_roundg (gk-1)
       case measure=>omega
       case rel =>
        refine ⟨k+1,An,cn,by omega,rfl,by go_num,H9 ?_⟩
        rw [HTK.out]
        exact IS2.out.one (l2:=[_]) (by simpa [TW.row] using qo) hgr
    · obtain rfl:k=p:=by omega
      have HCUT:Hid (RowsAt w w.heap.size 6 TW.row (some ⟨bA,oA+k*6,none⟩) (l.drop k)):=H9 (RowsAt.drop HA.out k)
      have k2:=H9 fun W=>zdb at0 sq0 ti0 ty0 xa xs xt xy mk0 xm B0 XB pl0.length c0 xp.length xc W false (by have h9:=HBG.out rfl;unfold befB Jb.bef at h9;exact h9.symm)
      go_wp2_with fail
      refine wp_region_held_drew (S:=fun w'=>Below wr.heap.size wr w'∧w'.cell? ⟨w.heap.size,0,none⟩=some (.int .i64 xa)∧w'.cell? ⟨w.heap.size,1,none⟩=some (.int .i64 xs)∧w'.cell? ⟨w.heap.size,2,none⟩=some (.int .i64 xt)∧w'.cell? ⟨w.heap.size,3,none⟩=some (.bool xm)∧w'.cell? ⟨w.heap.size,4,none⟩=some (.int .u8 xy)∧w'.cell? ⟨w.heap.size,5,none⟩=some (.slice XB xp.length xc)∧w'.cell? ⟨bA,oA+k*6,none⟩=some (.int .i64 at0)∧w'.cell? ⟨bA,oA+k*6+1,none⟩=some (.int .i64 sq0)∧w'.cell? ⟨bA,oA+k*6+2,none⟩=some (.int .i64 ti0)∧w'.cell? ⟨bA,oA+k*6+3,none⟩=some (.bool mk0)∧w'.cell? ⟨bA,oA+k*6+4,none⟩=some (.int .u8 ty0)∧w'.cell? ⟨bA,oA+k*6+5,none⟩=some (.slice B0 pl0.length c0)) (by kernel_rfl) ?_ (fun qH => ?_)
      · (first|assumption|((try go_split_ands);refine zav ?_ (fun hbX=>⟨zaa hbX x0,zaa hbX x1,zaa hbX x2,zaa hbX x3,zaa hbX x4,zaa hbX x5,zaa hbX e0,zaa hbX e1,zaa hbX e2,zaa hbX e3,zaa hbX e4,zaa hbX e5⟩);(with_reducible repeat first|assumption|exact zai (by assumption) (by assumption)|refine Below.drew ?_|refine zaj ?_ _)))
      iterate 10
       first
        | (refine tkN 12 (v := ?_) rfl rfl (Or.inl ⟨by rfl, ?_⟩) (by assumption) ?_
           rotate_left
           · (intro w hSw;(try dsimp only at hSw);go_simp;try with_reducible rfl))
        | refine tkN 12 (v:=undef) rfl rfl (Or.inr ⟨by rfl,rfl⟩) (by assumption) ?_
       try simp only [List.getElem_toArray,List.getElem_cons_zero,List.getElem_cons_succ,Act.put,List.setIfInBounds_toArray,List.set_cons_zero,List.set_cons_succ,HD1.out,HD2.out]
      refine wpAnyH_ready (rs:=[10]) (by kernel_rfl) (by simp) ?_
      refine AllReadyH.cons (o:=_) rfl (fun K hK => ?_) ?_
      rotate_left
      · exact AllReadyH.nil
      go_simp
      (go_at_call 156;refine (k2.out _).mono ?_;rintro e w' ⟨rfl,qb⟩;have hbw:Below wr.heap.size wr w':=zai qb (by (try go_split_ands);assumption);obtain ⟨hcc,hff⟩:=zdc qb)
      refine hK.out _ _ ?_ (fun qH => ?_)
      · (try dsimp only)
        (first|assumption|((try go_split_ands);refine zav ?_ (fun hbX=>⟨zaa hbX x0,zaa hbX x1,zaa hbX x2,zaa hbX x3,zaa hbX x4,zaa hbX x5,zaa hbX e0,zaa hbX e1,zaa hbX e2,zaa hbX e3,zaa hbX e4,zaa hbX e5⟩);(with_reducible repeat first|assumption|exact zai (by assumption) (by assumption)|refine Below.drew ?_|refine zaj ?_ _)))
      clear hK K
      try simp only [List.getElem_toArray,List.getElem_cons_zero,List.getElem_cons_succ,Act.put,List.setIfInBounds_toArray,List.set_cons_zero,List.set_cons_succ,HD1.out,HD2.out]
      first
       | (refine tk1 (i := 11) (v := ?_) rfl (Or.inl ⟨by rfl, ?_⟩) (by assumption) ?_
          rotate_left
          · (intro w hSw;(try dsimp only at hSw);go_simp;try with_reducible rfl))
       | refine tk1 (i:=11) (v:=undef) rfl (Or.inr ⟨by rfl,rfl⟩) (by assumption) ?_
      try simp only [List.getElem_toArray,List.getElem_cons_zero,List.getElem_cons_succ,Act.put,List.setIfInBounds_toArray,List.set_cons_zero,List.set_cons_succ,HD1.out,HD2.out]
      refine wpAnyH_done (by kernel_rfl) ?_ _
      all_goals
       have IS2:=IS.out.later hbw
       clear hcc hff qb e0 e1 e2 e3 e4 e5 x0 x1 x2 x3 x4 x5 hU
       have hxl:=IS2.bx.lt
       have y0:=IS2.bx.at 0 _ rfl
       have y1:=IS2.bx.at 1 _ rfl
       have y2:=IS2.bx.at 2 _ rfl
       have y3:=IS2.bx.at 3 _ rfl
       have y4:=IS2.bx.at 4 _ rfl
       have y5:=IS2.bx.at 5 _ rfl
       have IS9:=H9 IS2
       go_upto_region 7 with fail
       have h5:((k:Nat)+1)*56≤140737488355328:=by omega
       have h6:k+1≤maxLen:=by unfold maxLen;omega
       have h7:=IS9.out.hB
       have HX:=H9 IS9.out.own
       go_upto_region 8 with (at_builtin;go_loud (refine zaq (w0:=w') rfl _ _ 38 rfl (w.heap.size+1) 105 6 56 _ Tryz.underlying38 zbt rfl (by decide) A1 k c1 _ rfl HX.out [.int .i64 xa, .int .i64 xs, .int .i64 xt, .bool xm, .int .u8 xy, .slice XB xp.length xc] rfl (by simp [Value.oneCell']) rfl h6 h5 h7 ?_);intro A2 c2 wn qo hgr hat)
       have IS10:=H9 (IS9.out.one (l2:=[⟨⟨xa,⟨xs,xt,xm,xy,xp⟩⟩,XB,xc⟩]) (by simpa [TW.row] using qo) hgr)
       clear qo hgr hat y0 y1 y2 y3 y4 y5
       go_wp2_with (at_builtin;go_loud (refine zbb rfl _ _ 38 rfl (w.heap.size+1) 105 6 56 (.agg #[.int .i64 0, .int .i64 0, .int .i64 0, .bool false, .int .u8 0, .slice none 0 0]) Tryz.underlying38 zbt rfl (by decide) A2 (k+1) c2 _ rfl IS10.out.own w.heap.size TW.row zdp zdq _ _ _ (l.drop k) rfl (RowsAt.keep HCUT.out (fun p hp=>IS10.out.u.cell hp)) (by simp) (by unfold maxLen;simp<;>omega) (by simp<;>omega) IS10.out.hB (l.length+1) (by simp<;>omega) ?_);intro A3 c3 wm qo hgr hat)
       have IS11:=IS10.out.one (l2:=l.drop k) qo hgr
       go_wp2_with fail
       go_ret
       exact ⟨A3,c3,rfl,by rw [HI.out];simpa using IS11.own,IS11.u⟩
  have hi2:(l.length:Int)≤(k:Int):=by omega
  obtain rfl:k=p:=by omega
  have HCUT:Hid (RowsAt w w.heap.size 6 TW.row (some ⟨bA,oA+k*6,none⟩) (l.drop k)):=H9 (RowsAt.drop HA.out k)
  have hd1:decide ((k:Int)<(l.length:Int))=false:=by rw [decide_eq_false_iff_not];omega
  have hd2:decide (k<l.length)=false:=by rw [decide_eq_false_iff_not];exact hk
  go_wp2_with fail
  go_quiet (fail)
  have IS2:=IS.out.drewN nq
  clear hd1 hd2
  have hxl:=IS2.bx.lt
  have y0:=IS2.bx.at 0 _ rfl
  have y1:=IS2.bx.at 1 _ rfl
  have y2:=IS2.bx.at 2 _ rfl
  have y3:=IS2.bx.at 3 _ rfl
  have y4:=IS2.bx.at 4 _ rfl
  have y5:=IS2.bx.at 5 _ rfl
  have IS9:=H9 IS2
  go_upto_region 7 with fail
  have h5:((k:Nat)+1)*56≤140737488355328:=by omega
  have h6:k+1≤maxLen:=by unfold maxLen;omega
  have h7:=IS9.out.hB
  have HX:=H9 IS9.out.own
  go_upto_region 8 with (at_builtin;go_loud (refine zaq (w0:=World.drewN wr nq) rfl _ _ 38 rfl (w.heap.size+1) 105 6 56 _ Tryz.underlying38 zbt rfl (by decide) A1 k c1 _ rfl HX.out [.int .i64 xa, .int .i64 xs, .int .i64 xt, .bool xm, .int .u8 xy, .slice XB xp.length xc] rfl (by simp [Value.oneCell']) rfl h6 h5 h7 ?_);intro A2 c2 wn qo hgr hat)
  have IS10:=H9 (IS9.out.one (l2:=[⟨⟨xa,⟨xs,xt,xm,xy,xp⟩⟩,XB,xc⟩]) (by simpa [TW.row] using qo) hgr)
  clear qo hgr hat y0 y1 y2 y3 y4 y5
  go_wp2_with (at_builtin;go_loud (refine zbb rfl _ _ 38 rfl (w.heap.size+1) 105 6 56 (.agg #[.int .i64 0, .int .i64 0, .int .i64 0, .bool false, .int .u8 0, .slice none 0 0]) Tryz.underlying38 zbt rfl (by decide) A2 (k+1) c2 _ rfl IS10.out.own w.heap.size TW.row zdp zdq _ _ _ (l.drop k) rfl (RowsAt.keep HCUT.out (fun p hp=>IS10.out.u.cell hp)) (by simp) (by unfold maxLen;simp<;>omega) (by simp<;>omega) IS10.out.hB (l.length+1) (by simp<;>omega) ?_);intro A3 c3 wm qo hgr hat)
  have IS11:=IS10.out.one (l2:=l.drop k) qo hgr
  go_wp2_with fail
  go_ret
  exact ⟨A3,c3,rfl,by rw [HI.out];simpa using IS11.own,IS11.u⟩
theorem zsm (bA oA:Nat) (l:List TW) (n c:Nat) (xa xs xt:Int) (xm:Bool) (xy:Int) (XB:Option Addr) (xp:List Int) (xc:Nat) (w:World) (hn:l.length=n) (hl:n≤1000) (hcap:n≤c) (hcm:c≤maxLen) (hA:RowsAt w w.heap.size 6 TW.row (some ⟨bA,oA,none⟩) l) (hcp:c≤(l.takeWhile (befB ⟨⟨xa,⟨xs,xt,xm,xy,xp⟩⟩,XB,xc⟩)).length):Calls Tryz.prog 120 #[.slice (some ⟨bA,oA,none⟩) n c, .agg #[.int .i64 xa, .int .i64 xs, .int .i64 xt, .bool xm, .int .u8 xy, .slice XB xp.length xc]] w (RInsR l ⟨⟨xa,⟨xs,xt,xm,xy,xp⟩⟩,XB,xc⟩ w):=by
 subst hn
 obtain ⟨w1,w2,w3,w4,w5⟩:=zfk (befB ⟨⟨xa,⟨xs,xt,xm,xy,xp⟩⟩,XB,xc⟩) l
 generalize hp:(l.takeWhile (befB ⟨⟨xa,⟨xs,xt,xm,xy,xp⟩⟩,XB,xc⟩)).length=p at w1 w2 w3 w4 w5 hcp
 have HA:=H9 hA
 have H4:=H9 w4
 have H5:=H9 w5
 have hins:insT l ⟨⟨xa,⟨xs,xt,xm,xy,xp⟩⟩,XB,xc⟩=l.take p++(⟨⟨xa,⟨xs,xt,xm,xy,xp⟩⟩,XB,xc⟩::l.drop p):=by unfold insT;rw [← w1,← w2]
 have HI:=H9 hins
 clear hA w1 w2 w4 w5 hp hins
 unfold maxLen at hcm
 have IS0:Hid (ISt w (w.alloc (.cells #[.int .i64 xa, .int .i64 xs, .int .i64 xt, .bool xm, .int .u8 xy, .slice XB xp.length xc] 105)) [.int .i64 xa, .int .i64 xs, .int .i64 xt, .bool xm, .int .u8 xy, .slice XB xp.length xc] none 0 0 []):=H9 ⟨Blk.new w _ _,(Bel.refl w).push _,Owns.nil,by simp⟩
 go_enter Tryz.func120,Tryz.ntmps120
 go_wp2_with fail
 go_loopg [5,6] p (fun gk s5 i wr => ∃ (k:Nat) (A1:Option Addr) (c1:Nat),gk+k=p∧s5 = .slice A1 k c1∧i = .int .i64 k∧Hid (ISt w wr [.int .i64 xa, .int .i64 xs, .int .i64 xt, .bool xm, .int .u8 xy, .slice XB xp.length xc] A1 k c1 (l.take k)))
 case atStart=>exact ⟨0,none,0,rfl,rfl,rfl,IS0⟩
 case round =>
  obtain ⟨k,A1,c1,hgk,rfl,rfl,IS⟩:=hrel
  have hi0:(0:Int)≤(k:Int):=by omega
  have hwl:=IS.out.bx.lt
  have x0:=IS.out.bx.at 0 _ rfl
  have x1:=IS.out.bx.at 1 _ rfl
  have x2:=IS.out.bx.at 2 _ rfl
  have x3:=IS.out.bx.at 3 _ rfl
  have x4:=IS.out.bx.at 4 _ rfl
  have x5:=IS.out.bx.at 5 _ rfl
  by_cases hk:k<l.length
  · have hi1:(k:Int)<(l.length:Int):=by omega
    have hd1:decide ((k:Int)<(l.length:Int))=true:=by rw [decide_eq_true_iff];exact hi1
    have hd2:decide (k<l.length)=true:=by rw [decide_eq_true_iff];exact hk
    have HD1:=H9 hd1
    have HD2:=H9 hd2
    have hU:Below wr.heap.size wr wr:=Below.refl _ _
    clear hd1 hd2
    obtain ⟨a,ha⟩:∃ a,l[k]? = some a:=⟨_,List.getElem?_eq_getElem hk⟩
    obtain ⟨b,off,hbo,hbB,e0,e1,e2,e3,e4,e5⟩:=zbs (HA.out.keep (fun p hp=>IS.out.u.cell hp)) ha
    injection hbo with hbo
    injection hbo with hbo1 hbo2
    subst hbo1 hbo2
    have HTK:Hid (l.take (k+1)=l.take k ++ [a]):=H9 (by rw [List.take_add_one,ha];rfl)
    have HBF:Hid (k<p→befB ⟨⟨xa,⟨xs,xt,xm,xy,xp⟩⟩,XB,xc⟩ a=true):=H9 (fun h=>H4.out k a h ha)
    have HBG:Hid (k=p→befB ⟨⟨xa,⟨xs,xt,xm,xy,xp⟩⟩,XB,xc⟩ a=false):=H9 (fun h=>H5.out a (by rw [← h];exact ha))
    obtain ⟨⟨at0,⟨sq0,ti0,mk0,ty0,pl0⟩⟩,B0,c0⟩:=a
    simp only at e0 e1 e2 e3 e4 e5
    have hbwr:bA<wr.heap.size:=by have:=IS.out.u.size;omega
    clear ha
    by_cases hkp:k<p
    · have k2:=H9 fun W=>zdb at0 sq0 ti0 ty0 xa xs xt xy mk0 xm B0 XB pl0.length c0 xp.length xc W true (by have h9:=HBF.out hkp;unfold befB Jb.bef at h9;exact h9.symm)
      go_wp2_with fail
      refine wp_region_held_drew (S:=fun w'=>Below wr.heap.size wr w'∧w'.cell? ⟨w.heap.size,0,none⟩=some (.int .i64 xa)∧w'.cell? ⟨w.heap.size,1,none⟩=some (.int .i64 xs)∧w'.cell? ⟨w.heap.size,2,none⟩=some (.int .i64 xt)∧w'.cell? ⟨w.heap.size,3,none⟩=some (.bool xm)∧w'.cell? ⟨w.heap.size,4,none⟩=some (.int .u8 xy)∧w'.cell? ⟨w.heap.size,5,none⟩=some (.slice XB xp.length xc)∧w'.cell? ⟨bA,oA+k*6,none⟩=some (.int .i64 at0)∧w'.cell? ⟨bA,oA+k*6+1,none⟩=some (.int .i64 sq0)∧w'.cell? ⟨bA,oA+k*6+2,none⟩=some (.int .i64 ti0)∧w'.cell? ⟨bA,oA+k*6+3,none⟩=some (.bool mk0)∧w'.cell? ⟨bA,oA+k*6+4,none⟩=some (.int .u8 ty0)∧w'.cell? ⟨bA,oA+k*6+5,none⟩=some (.slice B0 pl0.length c0)) (by kernel_rfl) ?_ (fun qH => ?_)
      · (first|assumption|((try go_split_ands);refine zav ?_ (fun hbX=>⟨zaa hbX x0,zaa hbX x1,zaa hbX x2,zaa hbX x3,zaa hbX x4,zaa hbX x5,zaa hbX e0,zaa hbX e1,zaa hbX e2,zaa hbX e3,zaa hbX e4,zaa hbX e5⟩);(with_reducible repeat first|assumption|exact zai (by assumption) (by assumption)|refine Below.drew ?_|refine zaj ?_ _)))
      iterate 10
       first
        | (refine tkN 12 (v := ?_) rfl rfl (Or.inl ⟨by rfl, ?_⟩) (by assumption) ?_
           rotate_left
           · (intro w hSw;(try dsimp only at hSw);go_simp;try with_reducible rfl))
        | refine tkN 12 (v:=undef) rfl rfl (Or.inr ⟨by rfl,rfl⟩) (by assumption) ?_
       try simp only [List.getElem_toArray,List.getElem_cons_zero,List.getElem_cons_succ,Act.put,List.setIfInBounds_toArray,List.set_cons_zero,List.set_cons_succ,HD1.out,HD2.out]
      refine wpAnyH_ready (rs:=[10]) (by kernel_rfl) (by simp) ?_
      refine AllReadyH.cons (o:=_) rfl (fun K hK => ?_) ?_
      rotate_left
      · exact AllReadyH.nil
      go_simp
      (go_at_call 156;refine (k2.out _).mono ?_;rintro e w' ⟨rfl,qb⟩;have hbw:Below wr.heap.size wr w':=zai qb (by (try go_split_ands);assumption);obtain ⟨hcc,hff⟩:=zdc qb)
      refine hK.out _ _ ?_ (fun qH => ?_)
      · (try dsimp only)
        (first|assumption|((try go_split_ands);refine zav ?_ (fun hbX=>⟨zaa hbX x0,zaa hbX x1,zaa hbX x2,zaa hbX x3,zaa hbX x4,zaa hbX x5,zaa hbX e0,zaa hbX e1,zaa hbX e2,zaa hbX e3,zaa hbX e4,zaa hbX e5⟩);(with_reducible repeat first|assumption|exact zai (by assumption) (by assumption)|refine Below.drew ?_|refine zaj ?_ _)))
      clear hK K
      try simp only [List.getElem_toArray,List.getElem_cons_zero,List.getElem_cons_succ,Act.put,List.setIfInBounds_toArray,List.set_cons_zero,List.set_cons_succ,HD1.out,HD2.out]
      first
       | (refine tk1 (i := 11) (v := ?_) rfl (Or.inl ⟨by rfl, ?_⟩) (by assumption) ?_
          rotate_left
          · (intro w hSw;(try dsimp only at hSw);go_simp;try with_reducible rfl))
       | refine tk1 (i:=11) (v:=undef) rfl (Or.inr ⟨by rfl,rfl⟩) (by assumption) ?_
      try simp only [List.getElem_toArray,List.getElem_cons_zero,List.getElem_cons_succ,Act.put,List.setIfInBounds_toArray,List.set_cons_zero,List.set_cons_succ,HD1.out,HD2.out]
      refine wpAnyH_done (by kernel_rfl) ?_ _
      all_goals
       have IS2:=H9 (IS.out.later hbw)
       have f0:=zaa hbw e0
       have f1:=zaa hbw e1
       have f2:=zaa hbw e2
       have f3:=zaa hbw e3
       have f4:=zaa hbw e4
       have f5:=zaa hbw e5
       clear hcc hff qb e0 e1 e2 e3 e4 e5 x0 x1 x2 x3 x4 x5 hU
       have hbwe:bA<w'.heap.size:=Nat.lt_of_lt_of_le hbwr hbw.size
       go_wp2_with (at_builtin;go_loud (refine zaq rfl _ _ 38 rfl (w.heap.size+1) 105 6 56 (.agg #[.int .i64 0, .int .i64 0, .int .i64 0, .bool false, .int .u8 0, .slice none 0 0]) Tryz.underlying38 zbt rfl (by decide) A1 k c1 _ rfl IS2.out.own [.int .i64 at0, .int .i64 sq0, .int .i64 ti0, .bool mk0, .int .u8 ty0, .slice B0 pl0.length c0] rfl (by simp [Value.oneCell']) rfl (by unfold maxLen;omega) (by omega) IS2.out.hB ?_);intro An cn wn qo hgr hat)
       go_wp2_with fail
       go_roundg (gk-1)
       case measure=>omega
       case rel =>
        refine ⟨k+1,An,cn,by omega,rfl,by go_num,H9 ?_⟩
        rw [HTK.out]
        exact IS2.out.one (l2:=[_]) (by simpa [TW.row] using qo) hgr
    · exfalso
      omega
  have hi2:(l.length:Int)≤(k:Int):=by omega
  obtain rfl:k=p:=by omega
  have HCUT:Hid (RowsAt w w.heap.size 6 TW.row (some ⟨bA,oA,none⟩) (l.drop k)):=H9 (RowsAt.nil' (by simp<;>omega))
  have hd1:decide ((k:Int)<(l.length:Int))=false:=by rw [decide_eq_false_iff_not];omega
  have hd2:decide (k<l.length)=false:=by rw [decide_eq_false_iff_not];exact hk
  go_wp2_with fail
  go_quiet (fail)
  have IS2:=IS.out.drewN nq
  clear hd1 hd2
  have hxl:=IS2.bx.lt
  have y0:=IS2.bx.at 0 _ rfl
  have y1:=IS2.bx.at 1 _ rfl
  have y2:=IS2.bx.at 2 _ rfl
  have y3:=IS2.bx.at 3 _ rfl
  have y4:=IS2.bx.at 4 _ rfl
  have y5:=IS2.bx.at 5 _ rfl
  have IS9:=H9 IS2
  go_upto_region 7 with fail
  have h5:((k:Nat)+1)*56≤140737488355328:=by omega
  have h6:k+1≤maxLen:=by unfold maxLen;omega
  have h7:=IS9.out.hB
  have HX:=H9 IS9.out.own
  go_upto_region 8 with (at_builtin;go_loud (refine zaq (w0:=World.drewN wr nq) rfl _ _ 38 rfl (w.heap.size+1) 105 6 56 _ Tryz.underlying38 zbt rfl (by decide) A1 k c1 _ rfl HX.out [.int .i64 xa, .int .i64 xs, .int .i64 xt, .bool xm, .int .u8 xy, .slice XB xp.length xc] rfl (by simp [Value.oneCell']) rfl h6 h5 h7 ?_);intro A2 c2 wn qo hgr hat)
  have IS10:=H9 (IS9.out.one (l2:=[⟨⟨xa,⟨xs,xt,xm,xy,xp⟩⟩,XB,xc⟩]) (by simpa [TW.row] using qo) hgr)
  clear qo hgr hat y0 y1 y2 y3 y4 y5
  go_wp2_with (at_builtin;go_loud (refine zbb rfl _ _ 38 rfl (w.heap.size+1) 105 6 56 (.agg #[.int .i64 0, .int .i64 0, .int .i64 0, .bool false, .int .u8 0, .slice none 0 0]) Tryz.underlying38 zbt rfl (by decide) A2 (k+1) c2 _ rfl IS10.out.own w.heap.size TW.row zdp zdq _ _ _ (l.drop k) rfl (RowsAt.keep HCUT.out (fun p hp=>IS10.out.u.cell hp)) (by simp) (by unfold maxLen;simp<;>omega) (by simp<;>omega) IS10.out.hB (l.length+1) (by simp<;>omega) ?_);intro A3 c3 wm qo hgr hat)
  have IS11:=IS10.out.one (l2:=l.drop k) qo hgr
  go_wp2_with fail
  go_ret
  exact ⟨A3,c3,rfl,by rw [HI.out];simpa using IS11.own,IS11.u⟩
theorem zvb (l:List TW) (n c:Nat) (xa xs xt:Int) (xm:Bool) (xy:Int) (XB:Option Addr) (xp:List Int) (xc:Nat) (w:World) (hn:l.length=n) (hl:n≤1000) (hcap:n≤c) (hcm:c≤maxLen) (hA:RowsAt w w.heap.size 6 TW.row none l) (h0:l.length=0):Calls Tryz.prog 120 #[.slice none n c, .agg #[.int .i64 xa, .int .i64 xs, .int .i64 xt, .bool xm, .int .u8 xy, .slice XB xp.length xc]] w (RInsR l ⟨⟨xa,⟨xs,xt,xm,xy,xp⟩⟩,XB,xc⟩ w):=by
 obtain rfl:l=[]:=List.eq_nil_of_length_eq_zero h0
 subst hn
 clear h0
 have HA:=H9 hA
 have HI:Hid (insT [] ⟨⟨xa,⟨xs,xt,xm,xy,xp⟩⟩,XB,xc⟩=[⟨⟨xa,⟨xs,xt,xm,xy,xp⟩⟩,XB,xc⟩]):=H9 rfl
 clear hA
 unfold maxLen at hcm
 have IS0:Hid (ISt w (w.alloc (.cells #[.int .i64 xa, .int .i64 xs, .int .i64 xt, .bool xm, .int .u8 xy, .slice XB xp.length xc] 105)) [.int .i64 xa, .int .i64 xs, .int .i64 xt, .bool xm, .int .u8 xy, .slice XB xp.length xc] none 0 0 []):=H9 ⟨Blk.new w _ _,(Bel.refl w).push _,Owns.nil,by simp⟩
 go_enter Tryz.func120,Tryz.ntmps120
 go_wp2_with fail
 go_loopg [5,6] 0 (fun gk s5 i wr => ∃ (k:Nat) (A1:Option Addr) (c1:Nat),gk+k=0∧s5 = .slice A1 k c1∧i = .int .i64 k∧Hid (ISt w wr [.int .i64 xa, .int .i64 xs, .int .i64 xt, .bool xm, .int .u8 xy, .slice XB xp.length xc] A1 k c1 ([])))
 case atStart=>exact ⟨0,none,0,rfl,rfl,rfl,IS0⟩
 case round =>
  obtain ⟨k,A1,c1,hgk,rfl,rfl,IS⟩:=hrel
  have hi0:(0:Int)≤(k:Int):=by omega
  have hwl:=IS.out.bx.lt
  have x0:=IS.out.bx.at 0 _ rfl
  have x1:=IS.out.bx.at 1 _ rfl
  have x2:=IS.out.bx.at 2 _ rfl
  have x3:=IS.out.bx.at 3 _ rfl
  have x4:=IS.out.bx.at 4 _ rfl
  have x5:=IS.out.bx.at 5 _ rfl
  have hk:¬k<0:=by omega
  have hi2:(0:Int)≤(k:Int):=by omega
  obtain rfl:k=0:=by omega
  have HCUT:Hid (RowsAt w w.heap.size 6 TW.row none ([]:List TW)):=H9 (RowsAt.nil' (by simp<;>omega))
  have hd1:decide ((0:Int)<0)=false:=by rw [decide_eq_false_iff_not];omega
  have hd2:decide (0<0)=false:=by rw [decide_eq_false_iff_not];omega
  go_wp2_with fail
  go_quiet (fail)
  have IS2:=IS.out.drewN nq
  clear hd1 hd2
  have hxl:=IS2.bx.lt
  have y0:=IS2.bx.at 0 _ rfl
  have y1:=IS2.bx.at 1 _ rfl
  have y2:=IS2.bx.at 2 _ rfl
  have y3:=IS2.bx.at 3 _ rfl
  have y4:=IS2.bx.at 4 _ rfl
  have y5:=IS2.bx.at 5 _ rfl
  have IS9:=H9 IS2
  go_upto_region 7 with fail
  have h5:((0:Nat)+1)*56≤140737488355328:=by omega
  have h6:0+1≤maxLen:=by unfold maxLen;omega
  have h7:=IS9.out.hB
  have HX:=H9 IS9.out.own
  go_upto_region 8 with (at_builtin;go_loud (refine zaq (w0:=World.drewN wr nq) rfl _ _ 38 rfl (w.heap.size+1) 105 6 56 _ Tryz.underlying38 zbt rfl (by decide) A1 0 c1 _ rfl HX.out [.int .i64 xa, .int .i64 xs, .int .i64 xt, .bool xm, .int .u8 xy, .slice XB xp.length xc] rfl (by simp [Value.oneCell']) rfl h6 h5 h7 ?_);intro A2 c2 wn qo hgr hat)
  have IS10:=H9 (IS9.out.one (l2:=[⟨⟨xa,⟨xs,xt,xm,xy,xp⟩⟩,XB,xc⟩]) (by simpa [TW.row] using qo) hgr)
  clear qo hgr hat y0 y1 y2 y3 y4 y5
  go_wp2_with (at_builtin;go_loud (refine zbb rfl _ _ 38 rfl (w.heap.size+1) 105 6 56 (.agg #[.int .i64 0, .int .i64 0, .int .i64 0, .bool false, .int .u8 0, .slice none 0 0]) Tryz.underlying38 zbt rfl (by decide) A2 (0+1) c2 _ rfl IS10.out.own w.heap.size TW.row zdp zdq _ _ _ ([]:List TW) rfl (RowsAt.keep HCUT.out (fun p hp=>IS10.out.u.cell hp)) (by simp) (by unfold maxLen;simp<;>omega) (by simp<;>omega) IS10.out.hB (0+1) (by simp<;>omega) ?_);intro A3 c3 wm qo hgr hat)
  have IS11:=IS10.out.one (l2:=[]) qo hgr
  go_wp2_with fail
  go_ret
  exact ⟨A3,c3,rfl,by rw [HI.out];simpa using IS11.own,IS11.u⟩
theorem zsn (ad:Addr) (l:List TW) (n c:Nat) (xa xs xt:Int) (xm:Bool) (xy:Int) (XB:Option Addr) (xp:List Int) (xc:Nat) (w:World) (hn:l.length=n) (hl:n≤1000) (hcap:n≤c) (hcm:c≤maxLen) (hA:RowsAt w w.heap.size 6 TW.row (some ad) l) (h0:l.length=0):Calls Tryz.prog 120 #[.slice (some ad) n c, .agg #[.int .i64 xa, .int .i64 xs, .int .i64 xt, .bool xm, .int .u8 xy, .slice XB xp.length xc]] w (RInsR l ⟨⟨xa,⟨xs,xt,xm,xy,xp⟩⟩,XB,xc⟩ w):=by
 obtain rfl:l=[]:=List.eq_nil_of_length_eq_zero h0
 subst hn
 clear h0
 have HA:=H9 hA
 have HI:Hid (insT [] ⟨⟨xa,⟨xs,xt,xm,xy,xp⟩⟩,XB,xc⟩=[⟨⟨xa,⟨xs,xt,xm,xy,xp⟩⟩,XB,xc⟩]):=H9 rfl
 clear hA
 unfold maxLen at hcm
 have IS0:Hid (ISt w (w.alloc (.cells #[.int .i64 xa, .int .i64 xs, .int .i64 xt, .bool xm, .int .u8 xy, .slice XB xp.length xc] 105)) [.int .i64 xa, .int .i64 xs, .int .i64 xt, .bool xm, .int .u8 xy, .slice XB xp.length xc] none 0 0 []):=H9 ⟨Blk.new w _ _,(Bel.refl w).push _,Owns.nil,by simp⟩
 go_enter Tryz.func120,Tryz.ntmps120
 go_wp2_with fail
 go_loopg [5,6] 0 (fun gk s5 i wr => ∃ (k:Nat) (A1:Option Addr) (c1:Nat),gk+k=0∧s5 = .slice A1 k c1∧i = .int .i64 k∧Hid (ISt w wr [.int .i64 xa, .int .i64 xs, .int .i64 xt, .bool xm, .int .u8 xy, .slice XB xp.length xc] A1 k c1 ([])))
 case atStart=>exact ⟨0,none,0,rfl,rfl,rfl,IS0⟩
 case round =>
  obtain ⟨k,A1,c1,hgk,rfl,rfl,IS⟩:=hrel
  have hi0:(0:Int)≤(k:Int):=by omega
  have hwl:=IS.out.bx.lt
  have x0:=IS.out.bx.at 0 _ rfl
  have x1:=IS.out.bx.at 1 _ rfl
  have x2:=IS.out.bx.at 2 _ rfl
  have x3:=IS.out.bx.at 3 _ rfl
  have x4:=IS.out.bx.at 4 _ rfl
  have x5:=IS.out.bx.at 5 _ rfl
  have hk:¬k<0:=by omega
  have hi2:(0:Int)≤(k:Int):=by omega
  obtain rfl:k=0:=by omega
  have HCUT:Hid (RowsAt w w.heap.size 6 TW.row (some ad) ([]:List TW)):=H9 (RowsAt.nil' (by simp<;>omega))
  have hd1:decide ((0:Int)<0)=false:=by rw [decide_eq_false_iff_not];omega
  have hd2:decide (0<0)=false:=by rw [decide_eq_false_iff_not];omega
  go_wp2_with fail
  go_quiet (fail)
  have IS2:=IS.out.drewN nq
  clear hd1 hd2
  have hxl:=IS2.bx.lt
  have y0:=IS2.bx.at 0 _ rfl
  have y1:=IS2.bx.at 1 _ rfl
  have y2:=IS2.bx.at 2 _ rfl
  have y3:=IS2.bx.at 3 _ rfl
  have y4:=IS2.bx.at 4 _ rfl
  have y5:=IS2.bx.at 5 _ rfl
  have IS9:=H9 IS2
  go_upto_region 7 with fail
  have h5:((0:Nat)+1)*56≤140737488355328:=by omega
  have h6:0+1≤maxLen:=by unfold maxLen;omega
  have h7:=IS9.out.hB
  have HX:=H9 IS9.out.own
  go_upto_region 8 with (at_builtin;go_loud (refine zaq (w0:=World.drewN wr nq) rfl _ _ 38 rfl (w.heap.size+1) 105 6 56 _ Tryz.underlying38 zbt rfl (by decide) A1 0 c1 _ rfl HX.out [.int .i64 xa, .int .i64 xs, .int .i64 xt, .bool xm, .int .u8 xy, .slice XB xp.length xc] rfl (by simp [Value.oneCell']) rfl h6 h5 h7 ?_);intro A2 c2 wn qo hgr hat)
  have IS10:=H9 (IS9.out.one (l2:=[⟨⟨xa,⟨xs,xt,xm,xy,xp⟩⟩,XB,xc⟩]) (by simpa [TW.row] using qo) hgr)
  clear qo hgr hat y0 y1 y2 y3 y4 y5
  go_wp2_with (at_builtin;go_loud (refine zbb rfl _ _ 38 rfl (w.heap.size+1) 105 6 56 (.agg #[.int .i64 0, .int .i64 0, .int .i64 0, .bool false, .int .u8 0, .slice none 0 0]) Tryz.underlying38 zbt rfl (by decide) A2 (0+1) c2 _ rfl IS10.out.own w.heap.size TW.row zdp zdq _ _ _ ([]:List TW) rfl (RowsAt.keep HCUT.out (fun p hp=>IS10.out.u.cell hp)) (by simp) (by unfold maxLen;simp<;>omega) (by simp<;>omega) IS10.out.hB (0+1) (by simp<;>omega) ?_);intro A3 c3 wm qo hgr hat)
  have IS11:=IS10.out.one (l2:=[]) qo hgr
  go_wp2_with fail
  go_ret
  exact ⟨A3,c3,rfl,by rw [HI.out];simpa using IS11.own,IS11.u⟩
theorem zso (l:List TW) (x:TW) (A:Option Addr) (n c:Nat) (w:World) (hn:l.length=n) (hl:n≤1000) (hcap:n≤c) (hcm:c≤maxLen) (hA:RowsAt w w.heap.size 6 TW.row A l):Calls Tryz.prog 120 #[.slice A n c, .agg x.row.toArray] w (RInsR l x w):=by
 obtain ⟨⟨xa,⟨xs,xt,xm,xy,xp⟩⟩,XB,xc⟩:=x
 rcases Nat.eq_zero_or_pos l.length with h0|h0
 · rcases A with _|ad
   · exact zvb l n c xa xs xt xm xy XB xp xc w hn hl hcap hcm hA h0
   · exact zsn ad l n c xa xs xt xm xy XB xp xc w hn hl hcap hcm hA h0
 · obtain ⟨bA,oA,rfl,_⟩:=hA h0
   by_cases hcp:c=(l.takeWhile (befB ⟨⟨xa,⟨xs,xt,xm,xy,xp⟩⟩,XB,xc⟩)).length
   · exact zsm bA oA l n c xa xs xt xm xy XB xp xc w hn hl hcap hcm hA (Nat.le_of_eq hcp)
   · exact zpy bA oA l n c xa xs xt xm xy XB xp xc w hn hl hcap hcm hA hcp
end Go.Proofs.YtahbecinkciahaaGreat
namespace Go.Proofs.YtahbecinkciahaaGreat
open Go.RowKit
theorem zpz (s:Jb.Jt) (A:Option Addr) (l:List TW) (n c:Nat) (now:Int) (w:World) (hq:l.map TW.w=s.q) (hn:l.length=n) (hl:n≤100000) (hcap:n≤c) (hcm:c≤maxLen) (hA:Wts w w.heap.size A l) (hP:∀ a∈l,a.w.m.pl.length≤1000000000):Calls Tryz.prog 58 #[.agg #[.int .i64 s.least, .int .i64 s.most, .int .i64 s.now, .bool s.on, .int .i64 s.zero, .int .i64 s.first, .int .i64 s.high, .int .i64 s.done, .int .i64 s.spread, .int .i64 s.trans, .slice A n c, .int .i64 s.late, .int .i64 s.twice, .int .i64 s.played], .int .i64 now] w (JRunB s now l w):=by
 obtain ⟨le,mo,nw,on,ze,fi,hi,dn,sp,tr,q,la,tw,pd⟩:=s
 simp only at hq ⊢
 subst hq
 refine (zpx le mo nw on ze fi hi dn sp tr A l n c la tw pd now w hn hl hcap hcm hA hP).mono ?_
 rintro e w' ⟨A1,c1,l1,A2,c2,l2,h1,h2,h3,h4,h5,h6,h7,h8,n1,s1,n2,s2⟩
 exact ⟨A1,c1,l1,A2,c2,l2,h1,h2,h3,h4,h5,h6,h7,h8,⟨n1,s1⟩,⟨n2,s2⟩⟩
end Go.Proofs.YtahbecinkciahaaGreat
namespace Go.Proofs.YtahbecinkciahaaGreat
attribute [local go_sem ↓] zae zaf
attribute [local go_sem] zad zag
open Go.RowKit
theorem r197 (s:Nat→Value):((List.range 197).map s).toArray = #[s 0,s 1,s 2,s 3,s 4,s 5,s 6,s 7,s 8,s 9,s 10,s 11,s 12,s 13,s 14,s 15,s 16,s 17,s 18,s 19,s 20,s 21,s 22,s 23,s 24,s 25,s 26,s 27,s 28,s 29,s 30,s 31,s 32,s 33,s 34,s 35,s 36,s 37,s 38,s 39,s 40,s 41,s 42,s 43,s 44,s 45,s 46,s 47,s 48,s 49,s 50,s 51,s 52,s 53,s 54,s 55,s 56,s 57,s 58,s 59,s 60,s 61,s 62,s 63,s 64,s 65,s 66,s 67,s 68,s 69,s 70,s 71,s 72,s 73,s 74,s 75,s 76,s 77,s 78,s 79,s 80,s 81,s 82,s 83,s 84,s 85,s 86,s 87,s 88,s 89,s 90,s 91,s 92,s 93,s 94,s 95,s 96,s 97,s 98,s 99,s 100,s 101,s 102,s 103,s 104,s 105,s 106,s 107,s 108,s 109,s 110,s 111,s 112,s 113,s 114,s 115,s 116,s 117,s 118,s 119,s 120,s 121,s 122,s 123,s 124,s 125,s 126,s 127,s 128,s 129,s 130,s 131,s 132,s 133,s 134,s 135,s 136,s 137,s 138,s 139,s 140,s 141,s 142,s 143,s 144,s 145,s 146,s 147,s 148,s 149,s 150,s 151,s 152,s 153,s 154,s 155,s 156,s 157,s 158,s 159,s 160,s 161,s 162,s 163,s 164,s 165,s 166,s 167,s 168,s 169,s 170,s 171,s 172,s 173,s 174,s 175,s 176,s 177,s 178,s 179,s 180,s 181,s 182,s 183,s 184,s 185,s 186,s 187,s 188,s 189,s 190,s 191,s 192,s 193,s 194,s 195,s 196]:=rfl
structure RQ (w W:World) (s:Jb.Jt) (m:Jb.Md) (MA:Option Addr) (mc:Nat) (A1:Option Addr) (l1:List TW) (A2:Option Addr) (c2:Nat) (l2:List TW):Prop where
 b0:Blk W w.heap.size 40 (JL s A2 l2.length c2).toArray
 b1:Blk W (w.heap.size+1) 103 (ML m MA m.pl.length mc).toArray
 b2:Blk W (w.heap.size+1+1) 40 (JL Jb.Jt.none none 0 0).toArray
 u:Bel w W
 p1:Wts W W.heap.size A1 l1
 p2:Wts W W.heap.size A2 l2
 hq:l2.map TW.w=s.q
 cap:l2.length≤c2
 cm:c2≤maxLen
structure RN (lo:Nat) (m:Jb.Md) (MA:Option Addr) (l:List TW) (A1:Option Addr) (l1:List TW) (A2:Option Addr) (l2:List TW):Prop where
 s1:Sub lo A1 l1 l
 r2:0<l2.length→∀ b off,A2=some ⟨b,off,none⟩→lo≤b
 m2:∀ a∈l2,a∈l∨a.B=MA∧a.w.m.pl=m.pl
structure RI (s:Jb.Jt) (m:Jb.Md) (now:Int) (n:Nat):Prop where
 n200:n≤200
 nw:s.now=now
 n0:0≤now
 n1:now≤281474976710656
 z0 : -1125899906842624≤s.zero
 z1:s.zero≤1125899906842624
 f0 : -281474976710656≤s.first
 f1:s.first≤281474976710656
 t0 : -281474976710656≤m.ti
 t1:m.ti≤281474976710656
 la0:0≤s.late
 la1:s.late≤281474976710656
 tw0:0≤s.twice
 tw1:s.twice≤281474976710656
 sp0:0≤s.spread
 sp1:s.spread≤80000000000000000
 tr0 : -1200000000000000≤s.trans
 tr1:s.trans≤1200000000000000
 le0:0≤s.least
 le1:s.least≤1000
 mo0:0≤s.most
 mo1:s.most≤1000
def PutQ (T:Jb.Jt×Int) (D:List Jb.Wt) (m:Jb.Md) (MA:Option Addr) (l:List TW) (w:World) (e:Ending) (w':World):Prop :=
 ∃ (A1:Option Addr) (c1:Nat) (l1:List TW) (A2:Option Addr) (c2:Nat) (l2:List TW),e = .returned (.tuple #[JV T.1 A2 l2.length c2, .slice A1 l1.length c1, .int .u8 T.2, .int .u8 0])∧l1.map TW.w=D∧l2.map TW.w=T.1.q∧Wts w' w'.heap.size A1 l1∧Wts w' w'.heap.size A2 l2∧l2.length≤c2∧c2≤maxLen∧Below w.heap.size w w'∧RN w.heap.size m MA l A1 l1 A2 l2
section
variable {w W W':World} {s s':Jb.Jt} {m:Jb.Md} {MA A1 A2:Option Addr} {mc c1 c2:Nat} {l l1 l2:List TW} {T:Jb.Jt×Int}
theorem RQ.later (h:RQ w W s m MA mc A1 l1 A2 c2 l2) (hb:Below W.heap.size W W'):RQ w W' s m MA mc A1 l1 A2 c2 l2 :=
 ⟨h.b0.later hb,h.b1.later hb,h.b2.later hb,h.u.later hb,h.p1.later hb,h.p2.later hb,h.hq,h.cap,h.cm⟩
theorem RQ.drewN (h:RQ w W s m MA mc A1 l1 A2 c2 l2):∀ k,RQ w (W.drewN k) s m MA mc A1 l1 A2 c2 l2
 | 0=>h
 | k+1=>(h.drewN k).later (Below.refl _ _).drew
theorem RQ.lt (h:RQ w W s m MA mc A1 l1 A2 c2 l2):w.heap.size+1+1<W.heap.size:=Blk.lt h.b2
theorem RQ.set (h:RQ w W s m MA mc A1 l1 A2 c2 l2) (i:Nat) (v:Value) {A3:Option Addr} {c3:Nat} {l3:List TW} (hJ:(JL s A2 l2.length c2).set i v=JL s' A3 l3.length c3) (hq:l3.map TW.w=s'.q) (hp:Wts W W.heap.size A3 l3) (hc:l3.length≤c3) (hm:c3≤maxLen):RQ w (W.setCell ⟨w.heap.size,i,none⟩ v) s' m MA mc A1 l1 A3 c3 l3:=by
 have hk:∀ p:Addr,p.block≠w.heap.size→(W.setCell ⟨w.heap.size,i,none⟩ v).cell? p=W.cell? p:=fun p hp=>World.cell?_setCell_other W _ p v (fun e=>hp (by first|rw [e]|rw [← e]))
 have hs:(W.setCell ⟨w.heap.size,i,none⟩ v).heap.size=W.heap.size:=by simp [World.setCell]
 refine ⟨?_,h.b1.far (by simp) _,h.b2.far (by simp;omega) _,zal h.u (Nat.le_refl _) _,?_,?_,hq,hc,hm⟩
 · have:=h.b0.set_ i v
   rw [← hJ]
   simpa using this
 · rw [hs];exact h.p1.keepNe h.b0 (zkl _ _ _ _) hk
 · rw [hs];exact hp.keepNe h.b0 (zkl _ _ _ _) hk
theorem RQ.put (h:RQ w W s m MA mc A1 l1 A2 c2 l2) (i:Nat) (v:Value) (s':Jb.Jt) (hJ:(JL s A2 l2.length c2).set i v=JL s' A2 l2.length c2:=by rfl) (hq:s.q=s'.q:=by rfl):RQ w (W.setCell ⟨w.heap.size,i,none⟩ v) s' m MA mc A1 l1 A2 c2 l2:=h.set i v hJ (h.hq.trans hq) h.p2 h.cap h.cm
theorem RQ.done {WB:World} {v:Int} (h:RQ w W s m MA mc A1 l1 A2 c2 l2) (ho:OnlyB (w.heap.size+1+1) W WB) (N:RN w.heap.size m MA l A1 l1 A2 l2) (hT:T=(s,v)):PutQ T (l1.map TW.w) m MA l w (.returned (.tuple #[JV s A2 l2.length c2, .slice A1 l1.length c1, .int .u8 v, .int .u8 0])) WB:=by
 subst hT
 have hk:∀ p:Addr,p.block≠w.heap.size+1+1→WB.cell? p=W.cell? p:=fun p hp=>ho.cell hp
 exact ⟨A1,c1,l1,A2,c2,l2,rfl,rfl,h.hq,by rw [ho.2];exact h.p1.keepNe h.b2 (zkl _ _ _ _) hk,by rw [ho.2];exact h.p2.keepNe h.b2 (zkl _ _ _ _) hk,h.cap,h.cm,ho.bel h.u (by omega),N⟩
end
noncomputable def rp4_code:Code:=((Tryz.f54.body.bind (fromReg 4)).getD .skip)
noncomputable def rp10_code:Code:=((Tryz.f54.body.bind (fromReg 10)).getD .skip)
noncomputable def rp15_code:Code:=((Tryz.f54.body.bind (fromReg 15)).getD .skip)
noncomputable def rp20_code:Code:=((Tryz.f54.body.bind (fromReg 20)).getD .skip)
noncomputable def rp27_code:Code:=((Tryz.f54.body.bind (fromReg 27)).getD .skip)
noncomputable def rp29_code:Code:=((Tryz.f54.body.bind (fromReg 29)).getD .skip)
noncomputable def rp21_code:Code:=((Tryz.f54.body.bind (findT 21)).getD .skip)
theorem zvc {w W:World} {s:Jb.Jt} {m:Jb.Md} {MA:Option Addr} {mc:Nat} {A1:Option Addr} {l1 l:List TW} {c1:Nat} {A2:Option Addr} {c2:Nat} {l2:List TW} {now:Int} {T:Jb.Jt×Int} (S:RQ w W s m MA mc A1 l1 A2 c2 l2) (N:RN w.heap.size m MA l A1 l1 A2 l2) (MI:IntsAt w w.heap.size .u8 MA m.pl) (I:RI s m now l2.length) (hT:T=tailT s m now) (a:Act) (ha:Fr 197 [(1, .int .i64 now),(3, .pointer (some ⟨w.heap.size,0,none⟩)),(5, .pointer (some ⟨w.heap.size+1,0,none⟩)),(6, .pointer (some ⟨w.heap.size+1+1,0,none⟩)),(10, .slice A1 l1.length c1)] a):firstWp Tryz.prog rp29_code (bodyPost Tryz.prog Tryz.f54 (PutQ T (l1.map TW.w) m MA l w)) a W:=by
 obtain ⟨s_,rfl,e1,e3,e5,e6,e10,_⟩:=ha
 rw [r197,e1,e3,e5,e6,e10]
 clear e1 e3 e5 e6 e10
 unfold tailT at hT
 obtain ⟨n200, -, n0,n1,z0,z1,f0,f1,t0,t1,la0,la1, -⟩:=I
 have k9:=H9 fun W=>zfl (m.ti-s.first) W (by omega) (by omega)
 obtain ⟨v9,hv9⟩:∃ v,v=(m.ti-s.first) / 8:=⟨_,rfl⟩
 rw [← hv9] at k9
 have vb : -100000000000000≤v9∧v9≤100000000000000:=by omega
 obtain ⟨vb0,vb1⟩:=vb
 obtain ⟨AT,hAT⟩:∃ AT,AT=s.zero+v9:=⟨_,rfl⟩
 have hpt:Jb.ptime s m.ti=AT:=by rw [hAT,hv9];rfl
 rw [hpt] at hT
 have ea:s.zero+v9=AT:=hAT.symm
 have ewa:IntKind.i64.wrap (s.zero+v9)=AT:=by rw [zat _ (by omega) (by omega)];exact ea
 have ab0 : -1300000000000000≤AT:=by omega
 have ab1:AT≤1300000000000000:=by omega
 have hwt:IntKind.i64.wrap (m.ti-s.first)=m.ti-s.first:=zat _ (by omega) (by omega)
 have HT:=H9 hT
 clear hT hv9 hAT hpt
 refine zau ?_
 intro _ _
 have b4:W.cell? ⟨w.heap.size,4,none⟩=some (.int .i64 s.zero):=S.b0.at 4 _ rfl
 have b5:W.cell? ⟨w.heap.size,5,none⟩=some (.int .i64 s.first):=S.b0.at 5 _ rfl
 have m1:W.cell? ⟨w.heap.size+1,1,none⟩=some (.int .i64 m.ti):=S.b1.at 1 _ rfl
 go_wp2_with fail
 go_quiet ((go_at_call 119;exact Calls.quiet_of_same ((k9.out _).mono fun _ _ h=>⟨h.1,h.2.symm⟩)))
 replace S:=S.drewN nq
 generalize W.drewN nq=W7 at S ⊢
 try rw [ea]
 try rw [ewa]
 clear ea ewa hwt b4 b5 m1 k9
 by_cases hla:AT≤now
 · have ht:T=({ s with late:=s.late+1 }, 2):=by rw [HT.out];exact if_pos hla
   have hb:s.late+1≤9000000000000000000:=by omega
   clear HT
   have HT:=H9 ht
   clear ht
   have b11:W7.cell? ⟨w.heap.size,11,none⟩=some (.int .i64 s.late):=S.b0.at 11 _ rfl
   have bfz:=S.b0.frozen
   go_upto_region 32 with fail
   clear b11 bfz
   replace S:=S.put 11 (.int .i64 (s.late+1)) { s with late:=s.late+1 }
   generalize W7.setCell _ _=W8 at S ⊢
   go_wp2_with (first|(refine zab rfl 40 (.tmp 3) rfl (w.heap.size) 0 rfl 40 (JL { s with late:=s.late+1 } A2 l2.length c2) S.b0 14 _ Tryz.underlying40 zao (show 0+14≤14 by decide) (JL { s with late:=s.late+1 } A2 l2.length c2).toArray (by rfl) rfl ?_)|(refine zac rfl 40 (.tmp 6) (.tmp 180) rfl (w.heap.size+1+1) 0 rfl 40 (JL Jb.Jt.none none 0 0) S.b2 (JL { s with late:=s.late+1 } A2 l2.length c2) rfl zao (show 0+14≤14 by decide) rfl (JL { s with late:=s.late+1 } A2 l2.length c2) rfl ?_;intro WB BB OB)|fail)
   exact bodyPost_ret (v := .tuple #[JV { s with late:=s.late+1 } A2 l2.length c2, .slice A1 l1.length c1, .int .u8 2, .int .u8 0]) (zar Tryz.results54 rfl (run_loadVar_row (P:=Tryz.prog) _ _ _ _ _ _ _ BB Tryz.underlying40 rfl (by kernel_rfl)) rfl rfl rfl) rfl (S.done OB N HT.out)
 replace hla:now<AT:=Int.not_le.1 hla
 by_cases hfar:now+120000<AT
 · have ht:T=(s,5):=by rw [HT.out];rw [if_neg (Int.not_le.2 hla)];exact if_pos hfar
   clear HT
   have HT:=H9 ht
   clear ht
   go_wp2_with (first|(refine zab rfl 40 (.tmp 3) rfl (w.heap.size) 0 rfl 40 (JL s A2 l2.length c2) S.b0 14 _ Tryz.underlying40 zao (show 0+14≤14 by decide) (JL s A2 l2.length c2).toArray (by rfl) rfl ?_)|(refine zac rfl 40 (.tmp 6) (.tmp 186) rfl (w.heap.size+1+1) 0 rfl 40 (JL Jb.Jt.none none 0 0) S.b2 (JL s A2 l2.length c2) rfl zao (show 0+14≤14 by decide) rfl (JL s A2 l2.length c2) rfl ?_;intro WB BB OB)|fail)
   exact bodyPost_ret (v := .tuple #[JV s A2 l2.length c2, .slice A1 l1.length c1, .int .u8 5, .int .u8 0]) (zar Tryz.results54 rfl (run_loadVar_row (P:=Tryz.prog) _ _ _ _ _ _ _ BB Tryz.underlying40 rfl (by kernel_rfl)) rfl rfl rfl) rfl (S.done OB N HT.out)
 replace hfar:AT≤now+120000:=Int.not_lt.1 hfar
 have ht:T=({ s with q:=Jb.ins s.q ⟨AT,m⟩ }, 1):=by rw [HT.out];rw [if_neg (Int.not_le.2 hla)];exact if_neg (Int.not_lt.2 hfar)
 clear HT
 have HT:=H9 ht
 clear ht
 have b10:W7.cell? ⟨w.heap.size,10,none⟩=some (.slice A2 l2.length c2):=S.b0.at 10 _ rfl
 have HN:=H9 N
 have HMI:=H9 MI
 clear N MI
 go_wp2_with (first|(refine zab rfl 103 (.tmp 5) rfl (w.heap.size+1) 0 rfl 103 (ML m MA m.pl.length mc) S.b1 5 _ Tryz.underlying103 zcu (show 0+5≤5 by decide) #[.int .i64 m.sq, .int .i64 m.ti, .bool m.mrk, .int .u8 m.ty, .slice MA m.pl.length mc] (by rfl) rfl ?_)|fail)
 refine (zso l2 ⟨⟨AT,m⟩,MA,mc⟩ A2 l2.length c2 _ rfl (by omega) S.cap S.cm S.p2.1).mono ?_
 rintro e w9 ⟨A3,c3,rfl,qo,hb9⟩
 have hz9:=hb9.size
 have hlen9:(insT l2 ⟨⟨AT,m⟩,MA,mc⟩).length=l2.length+1:=zsl l2 _
 have hrow9:0<(insT l2 ⟨⟨AT,m⟩,MA,mc⟩).length→∀ b off,A3=some ⟨b,off,none⟩→w.heap.size≤b:=fun _ b off e=>by
  have h1:=S.lt
  have h2:=qo.block b (by rw [e];rfl)
  omega
 replace S:=S.later hb9
 have hw9:Wts w9 w9.heap.size A3 (insT l2 ⟨⟨AT,m⟩,MA,mc⟩):=⟨Owns.rows qo hlen9 (fun a=>rfl),fun a ha=>by
  rcases zmc ha with rfl|ha
  · exact (HMI.out.below S.u).more S.u.size
  · exact S.p2.2 a ha⟩
 have hmap9:(insT l2 ⟨⟨AT,m⟩,MA,mc⟩).map TW.w=Jb.ins s.q ⟨AT,m⟩:=by rw [zsk,S.hq]
 have N:RN w.heap.size m MA l A1 l1 A3 (insT l2 ⟨⟨AT,m⟩,MA,mc⟩):=⟨HN.out.s1,hrow9,fun a ha=>by
  rcases zmc ha with rfl|ha
  · exact .inr ⟨rfl,rfl⟩
  · exact HN.out.m2 a ha⟩
 have hc9:=qo.cap
 have hm9:=Owns.capm qo
 rw [← hlen9] at hc9
 clear qo hb9 hrow9 HN b10
 rw [← hlen9]
 generalize insT l2 ⟨⟨AT,m⟩,MA,mc⟩=l3 at *
 clear hlen9
 have b10:w9.cell? ⟨w.heap.size,10,none⟩=some (.slice A2 l2.length c2):=S.b0.at 10 _ rfl
 have bfz:=S.b0.frozen
 have HN:=H9 N
 have hw:=H9 hw9
 have hq3:=H9 hmap9
 clear N hw9 hmap9
 go_upto_region 36 with fail
 clear b10 bfz
 replace S:=S.set 10 (.slice A3 l3.length c3) (s' := { s with q:=Jb.ins s.q ⟨AT,m⟩ }) rfl hq3.out hw.out hc9 hm9
 generalize w9.setCell _ _=W8 at S ⊢
 have N:=HN.out
 go_wp2_with (first|(refine zab rfl 40 (.tmp 3) rfl (w.heap.size) 0 rfl 40 (JL { s with q:=Jb.ins s.q ⟨AT,m⟩ } A3 l3.length c3) S.b0 14 _ Tryz.underlying40 zao (show 0+14≤14 by decide) (JL { s with q:=Jb.ins s.q ⟨AT,m⟩ } A3 l3.length c3).toArray (by rfl) rfl ?_)|(refine zac rfl 40 (.tmp 6) (.tmp 195) rfl (w.heap.size+1+1) 0 rfl 40 (JL Jb.Jt.none none 0 0) S.b2 (JL { s with q:=Jb.ins s.q ⟨AT,m⟩ } A3 l3.length c3) rfl zao (show 0+14≤14 by decide) rfl (JL { s with q:=Jb.ins s.q ⟨AT,m⟩ } A3 l3.length c3) rfl ?_;intro WB BB OB)|fail)
 exact bodyPost_ret (v := .tuple #[JV { s with q:=Jb.ins s.q ⟨AT,m⟩ } A3 l3.length c3, .slice A1 l1.length c1, .int .u8 1, .int .u8 0]) (zar Tryz.results54 rfl (run_loadVar_row (P:=Tryz.prog) _ _ _ _ _ _ _ BB Tryz.underlying40 rfl (by kernel_rfl)) rfl rfl rfl) rfl (S.done OB N HT.out)
theorem zkf {w W:World} {s:Jb.Jt} {m:Jb.Md} {MA:Option Addr} {mc:Nat} {A1:Option Addr} {l1 l:List TW} {c1:Nat} {A2:Option Addr} {c2:Nat} {l2:List TW} {now:Int} {T:Jb.Jt×Int} (S:RQ w W s m MA mc A1 l1 A2 c2 l2) (N:RN w.heap.size m MA l A1 l1 A2 l2) (MI:IntsAt w w.heap.size .u8 MA m.pl) (I:RI s m now l2.length) (hT:T=tailT ({ s with on:=true,high:=max s.high m.sq } : Jb.Jt) m now) (a:Act) (ha:Fr 197 [(1, .int .i64 now),(3, .pointer (some ⟨w.heap.size,0,none⟩)),(5, .pointer (some ⟨w.heap.size+1,0,none⟩)),(6, .pointer (some ⟨w.heap.size+1+1,0,none⟩)),(10, .slice A1 l1.length c1)] a):firstWp Tryz.prog rp27_code (bodyPost Tryz.prog Tryz.f54 (PutQ T (l1.map TW.w) m MA l w)) a W:=by
 obtain ⟨s_,rfl,e1,e3,e5,e6,e10,_⟩:=ha
 rw [r197,e1,e3,e5,e6,e10]
 clear e1 e3 e5 e6 e10
 refine zau ?_
 intro _ _
 have b3:W.cell? ⟨w.heap.size,3,none⟩=some (.bool s.on):=S.b0.at 3 _ rfl
 have b6:W.cell? ⟨w.heap.size,6,none⟩=some (.int .i64 s.high):=S.b0.at 6 _ rfl
 have m0:W.cell? ⟨w.heap.size+1,0,none⟩=some (.int .i64 m.sq):=S.b1.at 0 _ rfl
 have bfz:=S.b0.frozen
 have HI:=H9 I
 clear I
 go_upto_region 29 with fail
 clear b3 b6 m0 bfz
 have S2:=(S.put 3 (.bool true) { s with on:=true }).put 6 (.int .i64 (max s.high m.sq)) ({ s with on:=true,high:=max s.high m.sq } : Jb.Jt)
 generalize (W.setCell _ _).setCell _ _=W2 at S2 ⊢
 refine zas (by assumption) ?_
 have I2:RI ({ s with on:=true,high:=max s.high m.sq } : Jb.Jt) m now l2.length := { HI.out with }
 exact zvc S2 N MI I2 hT _ (Fr.mk rfl ⟨rfl,rfl,rfl,rfl,rfl,trivial⟩)
theorem zkg (l:List TW) (k:Nat) (a:TW) (h:l[k]? = some a) (z:Int):((l.take (k+1)).map TW.w).foldl (fun z w=>max z (w.at_+1)) z=max (((l.take k).map TW.w).foldl (fun z w=>max z (w.at_+1)) z) (a.w.at_+1):=by
 rw [List.take_add_one,h,List.map_append,List.foldl_append]
 rfl
theorem zkh {w W:World} {s:Jb.Jt} {m:Jb.Md} {MA:Option Addr} {mc:Nat} {A1:Option Addr} {l1 l:List TW} {c1:Nat} {A2:Option Addr} {c2:Nat} {l2:List TW} {now:Int} {K:Act→World→Prop} {Q:Exit→Act→World→Prop} (S:RQ w W s m MA mc A1 l1 A2 c2 l2) (N:RN w.heap.size m MA l A1 l1 A2 l2) (MI:IntsAt w w.heap.size .u8 MA m.pl) (I:RI s m now l2.length) (hB:∀ a∈l2,a.w.at_≤562949953421312∧0≤a.w.at_) (zk:Int) (hz:zk=(((l2.take l2.length).map TW.w).foldl (fun z w=>max z (w.at_+1)) (now+min (s.least+s.spread / 4) s.most))) (hK:∀ (W:World) (a:Act),RQ w W ({ s with first:=m.ti,zero:=zk } : Jb.Jt) m MA mc A1 l1 A2 c2 l2→Fr 197 [(1, .int .i64 now),(3, .pointer (some ⟨w.heap.size,0,none⟩)),(5, .pointer (some ⟨w.heap.size+1,0,none⟩)),(6, .pointer (some ⟨w.heap.size+1+1,0,none⟩)),(10, .slice A1 l1.length c1)] a→K a W) (a:Act) (ha:Fr 197 [(1, .int .i64 now),(3, .pointer (some ⟨w.heap.size,0,none⟩)),(5, .pointer (some ⟨w.heap.size+1,0,none⟩)),(6, .pointer (some ⟨w.heap.size+1+1,0,none⟩)),(10, .slice A1 l1.length c1)] a):firstWp Tryz.prog rp21_code (Exit.then K Q) a W:=by
 obtain ⟨s_,rfl,e1,e3,e5,e6,e10,_⟩:=ha
 rw [r197,e1,e3,e5,e6,e10]
 clear e1 e3 e5 e6 e10
 obtain ⟨n200, -, n0,n1,z0,z1,f0,f1,t0,t1,la0,la1,tw0,tw1,sp0,sp1,tr0,tr1,le0,le1,mo0,mo1⟩:=I
 obtain ⟨zs,hzs⟩:∃ zs,zs=now+min (s.least+s.spread / 4) s.most:=⟨_,rfl⟩
 rw [← hzs] at hz
 have zs0:0≤zs:=by omega
 have zs1:zs≤300000000000000:=by omega
 have zw:IntKind.i64.wrap (now+min (s.least+s.spread / 4) s.most)=zs:=by rw [zat _ (by omega) (by omega)];exact hzs.symm
 have HZ:=H9 hz
 have HB:=H9 hB
 have HZS:=H9 hzs
 clear hz hB
 refine zau ?_
 intro _ _
 have b0:W.cell? ⟨w.heap.size,0,none⟩=some (.int .i64 s.least):=S.b0.at 0 _ rfl
 have b1:W.cell? ⟨w.heap.size,1,none⟩=some (.int .i64 s.most):=S.b0.at 1 _ rfl
 have b4:W.cell? ⟨w.heap.size,4,none⟩=some (.int .i64 s.zero):=S.b0.at 4 _ rfl
 have b5:W.cell? ⟨w.heap.size,5,none⟩=some (.int .i64 s.first):=S.b0.at 5 _ rfl
 have b8:W.cell? ⟨w.heap.size,8,none⟩=some (.int .i64 s.spread):=S.b0.at 8 _ rfl
 have m1:W.cell? ⟨w.heap.size+1,1,none⟩=some (.int .i64 m.ti):=S.b1.at 1 _ rfl
 have bfz:=S.b0.frozen
 go_upto_region 23 with fail
 rw [← HZS.out]
 have S2:=(S.put 5 (.int .i64 m.ti) { s with first:=m.ti }).put 4 (.int .i64 zs) { s with first:=m.ti,zero:=zs }
 generalize (W.setCell _ _).setCell _ _=W2 at S2 ⊢
 clear b0 b1 b4 b5 b8 m1 bfz S zw hzs
 have HK:=H9 hK
 clear hK
 go_wp2_with fail
 go_loopg [15] l2.length (fun gk i wr => ∃ (k:Nat) (zk:Int),gk+k=l2.length∧i = .int .i64 k∧Hid (zk=((l2.take k).map TW.w).foldl (fun z w=>max z (w.at_+1)) zs)∧Hid (0≤zk∧zk≤562949953421313)∧Hid (RQ w wr { s with first:=m.ti,zero:=zk } m MA mc A1 l1 A2 c2 l2))
 case atStart=>exact ⟨0,zs,rfl,rfl,H9 rfl,H9 ⟨zs0,Int.le_trans zs1 (by decide)⟩,H9 S2⟩
 case round =>
  obtain ⟨k,z1,hgk,rfl,HZ1,HZB,S3⟩:=hrel
  have hi0:(0:Int)≤(k:Int):=by omega
  have b10:wr.cell? ⟨w.heap.size,10,none⟩=some (.slice A2 l2.length c2):=S3.out.b0.at 10 _ rfl
  by_cases hk:k<l2.length
  · have hi1:(k:Int)<(l2.length:Int):=by omega
    obtain ⟨a,ha⟩:∃ a,l2[k]? = some a:=⟨_,List.getElem?_eq_getElem (by omega)⟩
    obtain ⟨bq,oq,rfl,hbq,e0, -⟩:=zbs S3.out.p2.1 ha
    have h9:=HB.out a (List.mem_of_getElem? ha)
    have HFO:=H9 (zkg l2 k a ha zs)
    obtain ⟨at0,hat0⟩:∃ x,x=a.w.at_:=⟨_,rfl⟩
    rw [← hat0] at e0 h9 HFO
    obtain ⟨h8,h7⟩:=h9
    clear ha hat0
    have b4:wr.cell? ⟨w.heap.size,4,none⟩=some (.int .i64 z1):=S3.out.b0.at 4 _ rfl
    have bfz:=S3.out.b0.frozen
    have hw1:IntKind.i64.wrap (at0+1)=at0+1:=zat _ (by omega) (by omega)
    have HZC:=H9 (show 0≤max z1 (at0+1)∧max z1 (at0+1)≤562949953421313 by have:=HZB.out;omega)
    go_wp2_with fail
    go_region
    all_goals
     go_wp2_with fail
     go_roundg (gk-1)
     case measure=>omega
     case rel=>exact ⟨k+1,max z1 (at0+1),by omega,by go_num,H9 (by rw [HFO.out,← HZ1.out]),HZC,H9 ((S3.out.drewN _).put 4 (.int .i64 (max z1 (at0+1))) { s with first:=m.ti,zero:=max z1 (at0+1) })⟩
  obtain rfl:k=l2.length:=by omega
  have hi1:(l2.length:Int)≤(l2.length:Int):=Int.le_refl _
  have hz3:z1=zk:=by rw [HZ1.out,HZ.out]
  subst hz3
  go_wp2_with fail
  exact HK.out _ _ S3.out (Fr.mk rfl ⟨rfl,rfl,rfl,rfl,rfl,trivial⟩)
def begT (s:Jb.Jt) (m:Jb.Md) (now:Int):Jb.Jt:=if s.on=false∨(m.mrk=true∧s.high<m.sq) then { s with on:=true,high:=max s.high m.sq,first:=m.ti,zero:=Jb.lastAt (now+min (s.least+s.spread / 4) s.most) s.q } else { s with on:=true,high:=max s.high m.sq }
theorem zqa {w W:World} {s:Jb.Jt} {m:Jb.Md} {MA:Option Addr} {mc:Nat} {A1:Option Addr} {l1 l:List TW} {c1:Nat} {A2:Option Addr} {c2:Nat} {l2:List TW} {now:Int} {T:Jb.Jt×Int} (S:RQ w W s m MA mc A1 l1 A2 c2 l2) (N:RN w.heap.size m MA l A1 l1 A2 l2) (MI:IntsAt w w.heap.size .u8 MA m.pl) (I:RI s m now l2.length) (hB:∀ a∈l2,a.w.at_≤562949953421312∧0≤a.w.at_) (hA:Jb.Asc s.q) (hzb : -1125899906842624≤(begT s m now).zero∧(begT s m now).zero≤1125899906842624) (hT:T=tailT (begT s m now) m now) (a:Act) (ha:Fr 197 [(1, .int .i64 now),(3, .pointer (some ⟨w.heap.size,0,none⟩)),(5, .pointer (some ⟨w.heap.size+1,0,none⟩)),(6, .pointer (some ⟨w.heap.size+1+1,0,none⟩)),(10, .slice A1 l1.length c1)] a):firstWp Tryz.prog rp20_code (bodyPost Tryz.prog Tryz.f54 (PutQ T (l1.map TW.w) m MA l w)) a W:=by
 obtain ⟨s_,rfl,e1,e3,e5,e6,e10,_⟩:=ha
 rw [r197,e1,e3,e5,e6,e10]
 clear e1 e3 e5 e6 e10
 refine zay ?_
 intro K hK L hL
 have HI:=H9 I
 have HB:=H9 hB
 have HA:=H9 hA
 have HT:=H9 hT
 have HZ:=H9 hzb
 have HN:=H9 N
 clear I hB hA hT hzb N
 obtain ⟨on,hon⟩:∃ on,on=s.on:=⟨_,rfl⟩
 obtain ⟨mk,hmk⟩:∃ mk,mk=m.mrk:=⟨_,rfl⟩
 have b3:W.cell? ⟨w.heap.size,3,none⟩=some (.bool on):=by rw [hon];exact S.b0.at 3 _ rfl
 have m2:W.cell? ⟨w.heap.size+1,2,none⟩=some (.bool mk):=by rw [hmk];exact S.b1.at 2 _ rfl
 have b6:W.cell? ⟨w.heap.size,6,none⟩=some (.int .i64 s.high):=S.b0.at 6 _ rfl
 have m0:W.cell? ⟨w.heap.size+1,0,none⟩=some (.int .i64 m.sq):=S.b1.at 0 _ rfl
 have HON:=H9 hon
 have HMK:=H9 hmk
 clear hon hmk
 by_cases hbg:on=false∨(mk=true∧s.high<m.sq)
 · have hbt:begT s m now = { s with on:=true,high:=max s.high m.sq,first:=m.ti,zero:=Jb.lastAt (now+min (s.least+s.spread / 4) s.most) s.q } := by unfold begT;rw [← HON.out,← HMK.out,if_pos hbg]
   rw [hbt] at HT HZ
   clear hbt
   have hz:Jb.lastAt (now+min (s.least+s.spread / 4) s.most) s.q=((l2.take l2.length).map TW.w).foldl (fun z w=>max z (w.at_+1)) (now+min (s.least+s.spread / 4) s.most):=by rw [List.take_length,S.hq];exact (Jb.last_max _ _ _ rfl HA.out).symm
   have HZ2:=H9 hz
   clear hz
   have hK2:=H9 fun (W:World) (a:Act) (S2:RQ w W ({ s with first:=m.ti,zero:=Jb.lastAt (now+min (s.least+s.spread / 4) s.most) s.q } : Jb.Jt) m MA mc A1 l1 A2 c2 l2) (ha:Fr 197 [(1, .int .i64 now),(3, .pointer (some ⟨w.heap.size,0,none⟩)),(5, .pointer (some ⟨w.heap.size+1,0,none⟩)),(6, .pointer (some ⟨w.heap.size+1+1,0,none⟩)),(10, .slice A1 l1.length c1)] a)=>hK a W (zjg (zkf S2 HN.out MI { HI.out with z0:=HZ.out.1,z1:=HZ.out.2,f0:=HI.out.t0,f1:=HI.out.t1 } HT.out a ha))
   rcases hbg with rfl|⟨rfl,hsq⟩
   · go_upto_region 21 with fail
     refine zas (by assumption) ?_
     exact zkh S HN.out MI HI.out HB.out _ HZ2.out hK2.out _ (Fr.mk rfl ⟨rfl,rfl,rfl,rfl,rfl,trivial⟩)
   · cases on
     · go_upto_region 21 with fail
       refine zas (by assumption) ?_
       exact zkh S HN.out MI HI.out HB.out _ HZ2.out hK2.out _ (Fr.mk rfl ⟨rfl,rfl,rfl,rfl,rfl,trivial⟩)
     · go_upto_region 21 with fail
       refine zas (by assumption) ?_
       exact zkh S HN.out MI HI.out HB.out _ HZ2.out hK2.out _ (Fr.mk rfl ⟨rfl,rfl,rfl,rfl,rfl,trivial⟩)
 have hbt:begT s m now = { s with on:=true,high:=max s.high m.sq } := by unfold begT;rw [← HON.out,← HMK.out,if_neg hbg]
 rw [hbt] at HT HZ
 clear hbt HZ
 cases on
 · exact absurd (Or.inl rfl) hbg
 cases mk
 · clear hbg
   go_upto_region 27 with fail
   refine zas (by assumption) ?_
   exact zkf S HN.out MI HI.out HT.out _ (Fr.mk rfl ⟨rfl,rfl,rfl,rfl,rfl,trivial⟩)
 · have hsq:¬s.high<m.sq:=fun h=>hbg (Or.inr ⟨rfl,h⟩)
   clear hbg
   go_upto_region 27 with fail
   refine zas (by assumption) ?_
   exact zkf S HN.out MI HI.out HT.out _ (Fr.mk rfl ⟨rfl,rfl,rfl,rfl,rfl,trivial⟩)
def traT (s:Jb.Jt) (m:Jb.Md) (now:Int):Jb.Jt:=({ s with spread:=if s.on then s.spread+max (now-m.ti / 8-s.trans) (s.trans-(now-m.ti / 8))-(s.spread+8) / 16 else s.spread,trans:=now-m.ti / 8 } : Jb.Jt)
theorem zvd (s:Jb.Jt) (m:Jb.Md) (now:Int) (h:s.now=now):Jb.meas s m=begT (traT s m now) m now:=by
 subst h
 unfold Jb.meas begT traT
 dsimp only
 by_cases hb:s.on=false∨(m.mrk=true∧s.high<m.sq)
 · simp only [if_pos hb]
 · simp only [if_neg hb]
theorem zqb {w W:World} {s:Jb.Jt} {m:Jb.Md} {MA:Option Addr} {mc:Nat} {A1:Option Addr} {l1 l:List TW} {c1:Nat} {A2:Option Addr} {c2:Nat} {l2:List TW} {now:Int} {T:Jb.Jt×Int} (S:RQ w W s m MA mc A1 l1 A2 c2 l2) (N:RN w.heap.size m MA l A1 l1 A2 l2) (MI:IntsAt w w.heap.size .u8 MA m.pl) (I:RI s m now l2.length) (hB:∀ a∈l2,a.w.at_≤562949953421312∧0≤a.w.at_) (hA:Jb.Asc s.q) (hzb : -1125899906842624≤(Jb.meas s m).zero∧(Jb.meas s m).zero≤1125899906842624) (hT:T=tailT (Jb.meas s m) m now) (a:Act) (ha:Fr 197 [(1, .int .i64 now),(3, .pointer (some ⟨w.heap.size,0,none⟩)),(5, .pointer (some ⟨w.heap.size+1,0,none⟩)),(6, .pointer (some ⟨w.heap.size+1+1,0,none⟩)),(10, .slice A1 l1.length c1)] a):firstWp Tryz.prog rp15_code (bodyPost Tryz.prog Tryz.f54 (PutQ T (l1.map TW.w) m MA l w)) a W:=by
 obtain ⟨s_,rfl,e1,e3,e5,e6,e10,_⟩:=ha
 rw [r197,e1,e3,e5,e6,e10]
 clear e1 e3 e5 e6 e10
 have HI:=H9 I
 have HB:=H9 hB
 have HA:=H9 hA
 have HN:=H9 N
 rw [zvd s m now I.nw] at hT hzb
 have HT:=H9 hT
 have HZ:=H9 hzb
 clear hB hA hT hzb N
 obtain ⟨n200, -, n0,n1,z0,z1,f0,f1,t0,t1,la0,la1,tw0,tw1,sp0,sp1,tr0,tr1,le0,le1,mo0,mo1⟩:=I
 obtain ⟨y,hy⟩:∃ y,y=m.ti / 8:=⟨_,rfl⟩
 have k8:=H9 fun W=>zfl m.ti W (by omega) (by omega)
 rw [← hy] at k8
 obtain ⟨y0,y1⟩ : -35184372088832≤y∧y≤35184372088832:=by omega
 obtain ⟨TT,hTT⟩:∃ TT,TT=now-y:=⟨_,rfl⟩
 have ew:IntKind.i64.wrap (now-y)=TT:=by rw [zat _ (by omega) (by omega)];exact hTT.symm
 have T0 : -1000000000000000≤TT:=by omega
 have T1:TT≤1000000000000000:=by omega
 have HTT:=H9 (show TT=now-m.ti / 8 by rw [hTT,hy])
 have e1:now-y=TT:=hTT.symm
 clear hy hTT
 refine zau ?_
 intro _ _
 have m1:W.cell? ⟨w.heap.size+1,1,none⟩=some (.int .i64 m.ti):=S.b1.at 1 _ rfl
 go_wp2_with fail
 refine (k8.out _).mono ?_
 rintro e w5 ⟨rfl,rfl⟩
 clear m1
 obtain ⟨on,hon⟩:∃ on,on=s.on:=⟨_,rfl⟩
 have b3:W.cell? ⟨w.heap.size,3,none⟩=some (.bool on):=by rw [hon];exact S.b0.at 3 _ rfl
 have HON:=H9 hon
 clear hon
 have b8:W.cell? ⟨w.heap.size,8,none⟩=some (.int .i64 s.spread):=S.b0.at 8 _ rfl
 have b9:W.cell? ⟨w.heap.size,9,none⟩=some (.int .i64 s.trans):=S.b0.at 9 _ rfl
 have bfz:=S.b0.frozen
 cases on
 · go_upto_region 20 with fail
   clear b3 b8 b9 bfz
   have S2:=S.put 9 (.int .i64 TT) { s with trans:=TT }
   generalize W.setCell _ _=W2 at S2 ⊢
   have ht:traT s m now = { s with trans:=TT } := by unfold traT;rw [← HON.out,HTT.out];rfl
   rw [ht] at HT HZ
   refine zbk (by assumption) (by assumption) ?_
   exact zqa S2 HN.out MI { HI.out with tr0:=Int.le_trans (by decide) T0,tr1:=Int.le_trans T1 (by decide) } HB.out HA.out HZ.out HT.out _ (Fr.mk rfl ⟨rfl,rfl,rfl,rfl,rfl,trivial⟩)
 · obtain ⟨sp,hsp⟩:∃ sp,sp=s.spread+max (TT-s.trans) (s.trans-TT)-(s.spread+8) / 16:=⟨_,rfl⟩
   have q0:0≤sp:=by omega
   have q1:sp≤80000000000000000:=by omega
   have md0:0≤max (TT-s.trans) (s.trans-TT):=by omega
   have md1:max (TT-s.trans) (s.trans-TT)≤3000000000000000:=by omega
   have HSP:=H9 hsp
   clear hsp
   go_upto_region 20 with fail
   clear b3 b8 b9 bfz
   rw [← HSP.out]
   have S2:=(S.put 8 (.int .i64 sp) { s with spread:=sp }).put 9 (.int .i64 TT) { s with spread:=sp,trans:=TT }
   generalize (W.setCell _ _).setCell _ _=W2 at S2 ⊢
   have ht:traT s m now = { s with spread:=sp,trans:=TT } := by unfold traT;rw [← HON.out,← HTT.out,HSP.out];rfl
   rw [ht] at HT HZ
   refine zbk (by assumption) (by assumption) ?_
   exact zqa S2 HN.out MI { HI.out with tr0:=Int.le_trans (by decide) T0,tr1:=Int.le_trans T1 (by decide),sp0:=q0,sp1:=q1 } HB.out HA.out HZ.out HT.out _ (Fr.mk rfl ⟨rfl,rfl,rfl,rfl,rfl,trivial⟩)
theorem zqc (s:Jb.Jt) (m:Jb.Md) (now:Int) (hn:s.now=now) (h0:(s.q.any fun w=>w.m.sq==m.sq)=false) (h1:¬(s.on=true∧m.sq≤s.done)) (h2:¬200≤s.q.length):Jb.put0 s m=tailT (Jb.meas s m) m now:=by
 subst hn
 exact zjk s m h0 h1 h2 _ _ rfl rfl
theorem zve {w W:World} {s:Jb.Jt} {m:Jb.Md} {MA:Option Addr} {mc:Nat} {A1:Option Addr} {l1 l:List TW} {c1:Nat} {A2:Option Addr} {c2:Nat} {l2:List TW} {now:Int} {T:Jb.Jt×Int} (S:RQ w W s m MA mc A1 l1 A2 c2 l2) (N:RN w.heap.size m MA l A1 l1 A2 l2) (MI:IntsAt w w.heap.size .u8 MA m.pl) (I:RI s m now l2.length) (hB:∀ a∈l2,a.w.at_≤562949953421312∧0≤a.w.at_) (hA:Jb.Asc s.q) (hzb : -1125899906842624≤(Jb.meas s m).zero∧(Jb.meas s m).zero≤1125899906842624) (hany:(s.q.any fun w=>w.m.sq==m.sq)=false) (hT:T=Jb.put0 s m) (a:Act) (ha:Fr 197 [(1, .int .i64 now),(3, .pointer (some ⟨w.heap.size,0,none⟩)),(5, .pointer (some ⟨w.heap.size+1,0,none⟩)),(6, .pointer (some ⟨w.heap.size+1+1,0,none⟩)),(10, .slice A1 l1.length c1)] a):firstWp Tryz.prog rp10_code (bodyPost Tryz.prog Tryz.f54 (PutQ T (l1.map TW.w) m MA l w)) a W:=by
 obtain ⟨s_,rfl,e1,e3,e5,e6,e10,_⟩:=ha
 rw [r197,e1,e3,e5,e6,e10]
 clear e1 e3 e5 e6 e10
 refine zay ?_
 intro _ _ _ _
 have hl2:s.q.length=l2.length:=by rw [← S.hq,List.length_map]
 have la1:s.late+1≤9000000000000000000:=Int.le_trans (Int.add_le_add_right I.la1 1) (by decide)
 have la0:=I.la0
 have n200:=I.n200
 obtain ⟨on,hon⟩:∃ on,on=s.on:=⟨_,rfl⟩
 have b3:W.cell? ⟨w.heap.size,3,none⟩=some (.bool on):=by rw [hon];exact S.b0.at 3 _ rfl
 have b7:W.cell? ⟨w.heap.size,7,none⟩=some (.int .i64 s.done):=S.b0.at 7 _ rfl
 have b10:W.cell? ⟨w.heap.size,10,none⟩=some (.slice A2 l2.length c2):=S.b0.at 10 _ rfl
 have b11:W.cell? ⟨w.heap.size,11,none⟩=some (.int .i64 s.late):=S.b0.at 11 _ rfl
 have m0:W.cell? ⟨w.heap.size+1,0,none⟩=some (.int .i64 m.sq):=S.b1.at 0 _ rfl
 have bfz:=S.b0.frozen
 have HN:=H9 N
 have HI:=H9 I
 have HB:=H9 hB
 have HA:=H9 hA
 have HZ:=H9 hzb
 clear N I hB hA hzb
 by_cases hlate:on=true∧m.sq≤s.done
 · have ht:T=({ s with late:=s.late+1 }, 2):=by rw [hT];exact zji s m hany (by rw [← hon];exact hlate)
   have HT:=H9 ht
   clear ht hT hany hon hl2
   obtain ⟨rfl,hls⟩:=hlate
   go_upto_region 12 with fail
   clear b3 b7 m0 b10 b11 bfz
   replace S:=S.put 11 (.int .i64 (s.late+1)) { s with late:=s.late+1 }
   generalize W.setCell _ _=W8 at S ⊢
   have N:=HN.out
   go_wp2_with (first|(refine zab rfl 40 (.tmp 3) rfl (w.heap.size) 0 rfl 40 (JL { s with late:=s.late+1 } A2 l2.length c2) S.b0 14 _ Tryz.underlying40 zao (show 0+14≤14 by decide) (JL { s with late:=s.late+1 } A2 l2.length c2).toArray (by rfl) rfl ?_)|(refine zac rfl 40 (.tmp 6) (.tmp 72) rfl (w.heap.size+1+1) 0 rfl 40 (JL Jb.Jt.none none 0 0) S.b2 (JL { s with late:=s.late+1 } A2 l2.length c2) rfl zao (show 0+14≤14 by decide) rfl (JL { s with late:=s.late+1 } A2 l2.length c2) rfl ?_;intro WB BB OB)|fail)
   exact bodyPost_ret (v := .tuple #[JV { s with late:=s.late+1 } A2 l2.length c2, .slice A1 l1.length c1, .int .u8 2, .int .u8 0]) (zar Tryz.results54 rfl (run_loadVar_row (P:=Tryz.prog) _ _ _ _ _ _ _ BB Tryz.underlying40 rfl (by kernel_rfl)) rfl rfl rfl) rfl (S.done OB N HT.out)
 have hlt:¬(s.on=true∧m.sq≤s.done):=by rw [← hon];exact hlate
 by_cases qf:200≤l2.length
 · have ht:T=(s,4):=by rw [hT];exact zjj s m hany hlt (by rw [hl2];exact qf)
   have HT:=H9 ht
   have hf4:((l2.length:Int)==200)=true:=by rw [beq_iff_eq];omega
   have hf5:((l2.length)==200)=true:=by rw [beq_iff_eq];omega
   have N:=HN.out
   clear ht hT hany hon hl2 hlt qf
   cases on
   · clear hlate
     go_upto_region 14 with fail
     clear b3 b7 m0 b10 b11 bfz hf4 hf5
     go_wp2_with (first|(refine zab rfl 40 (.tmp 3) rfl (w.heap.size) 0 rfl 40 (JL s A2 l2.length c2) S.b0 14 _ Tryz.underlying40 zao (show 0+14≤14 by decide) (JL s A2 l2.length c2).toArray (by rfl) rfl ?_)|(refine zac rfl 40 (.tmp 6) (.tmp 78) rfl (w.heap.size+1+1) 0 rfl 40 (JL Jb.Jt.none none 0 0) S.b2 (JL s A2 l2.length c2) rfl zao (show 0+14≤14 by decide) rfl (JL s A2 l2.length c2) rfl ?_;intro WB BB OB)|fail)
     exact bodyPost_ret (v := .tuple #[JV s A2 l2.length c2, .slice A1 l1.length c1, .int .u8 4, .int .u8 0]) (zar Tryz.results54 rfl (run_loadVar_row (P:=Tryz.prog) _ _ _ _ _ _ _ BB Tryz.underlying40 rfl (by kernel_rfl)) rfl rfl rfl) rfl (S.done OB N HT.out)
   · have hls:¬m.sq≤s.done:=fun h=>hlate ⟨rfl,h⟩
     clear hlate
     go_upto_region 14 with fail
     clear b3 b7 m0 b10 b11 bfz hf4 hf5
     go_wp2_with (first|(refine zab rfl 40 (.tmp 3) rfl (w.heap.size) 0 rfl 40 (JL s A2 l2.length c2) S.b0 14 _ Tryz.underlying40 zao (show 0+14≤14 by decide) (JL s A2 l2.length c2).toArray (by rfl) rfl ?_)|(refine zac rfl 40 (.tmp 6) (.tmp 78) rfl (w.heap.size+1+1) 0 rfl 40 (JL Jb.Jt.none none 0 0) S.b2 (JL s A2 l2.length c2) rfl zao (show 0+14≤14 by decide) rfl (JL s A2 l2.length c2) rfl ?_;intro WB BB OB)|fail)
     exact bodyPost_ret (v := .tuple #[JV s A2 l2.length c2, .slice A1 l1.length c1, .int .u8 4, .int .u8 0]) (zar Tryz.results54 rfl (run_loadVar_row (P:=Tryz.prog) _ _ _ _ _ _ _ BB Tryz.underlying40 rfl (by kernel_rfl)) rfl rfl rfl) rfl (S.done OB N HT.out)
 have ht:T=tailT (Jb.meas s m) m now:=by rw [hT];exact zqc s m now HI.out.nw hany hlt (by rw [hl2];exact qf)
 have HT:=H9 ht
 have hf4:((l2.length:Int)==200)=false:=by rw [beq_eq_false_iff_ne];omega
 have hf5:((l2.length)==200)=false:=by rw [beq_eq_false_iff_ne];omega
 clear ht hT hany hon hl2 hlt qf
 cases on
 · clear hlate
   go_upto_region 15 with fail
   refine zas (by assumption) ?_
   exact zqb S HN.out MI HI.out HB.out HA.out HZ.out HT.out _ (Fr.mk rfl ⟨rfl,rfl,rfl,rfl,rfl,trivial⟩)
 · have hls:¬m.sq≤s.done:=fun h=>hlate ⟨rfl,h⟩
   clear hlate
   go_upto_region 15 with fail
   refine zas (by assumption) ?_
   exact zqb S HN.out MI HI.out HB.out HA.out HZ.out HT.out _ (Fr.mk rfl ⟨rfl,rfl,rfl,rfl,rfl,trivial⟩)
theorem zvf {l:List TW} {sq:Int} (h:((l.map TW.w).any fun x=>x.m.sq==sq)=true):∃ p,p<l.length∧(∀ a,l[p]? = some a→a.w.m.sq=sq)∧∀ k a,k<p→l[k]? = some a→a.w.m.sq≠sq:=by
 induction l with
 | nil=>simp at h
 | cons b l ih =>
   by_cases hb:b.w.m.sq=sq
   · exact ⟨0,by simp,fun a ha=>by simp at ha;rw [← ha];exact hb,fun k a hk=>by omega⟩
   · have h2:((l.map TW.w).any fun x=>x.m.sq==sq)=true:=by simpa [hb] using h
     obtain ⟨p,hp,h3,h4⟩:=ih h2
     refine ⟨p+1,by simp;omega,fun a ha=>h3 a (by simpa using ha),fun k a hk ha => ?_⟩
     rcases k with _|k
     · simp at ha;rw [← ha];exact hb
     · exact h4 k a (by omega) (by simpa using ha)
theorem zvg {l:List TW} {sq:Int} (h:((l.map TW.w).any fun x=>x.m.sq==sq)=false) {k:Nat} {a:TW} (ha:l[k]? = some a):a.w.m.sq≠sq:=fun e=>by
 rw [List.any_eq_false] at h
 exact h a.w (List.mem_map.2 ⟨a,List.mem_of_getElem? ha,rfl⟩) (by simpa using e)
theorem zvh {w W:World} {s:Jb.Jt} {m:Jb.Md} {MA:Option Addr} {mc:Nat} {A1:Option Addr} {l1 l:List TW} {c1:Nat} {A2:Option Addr} {c2:Nat} {l2:List TW} {now:Int} {T:Jb.Jt×Int} (S:RQ w W s m MA mc A1 l1 A2 c2 l2) (N:RN w.heap.size m MA l A1 l1 A2 l2) (MI:IntsAt w w.heap.size .u8 MA m.pl) (I:RI s m now l2.length) (hany:(s.q.any fun w=>w.m.sq==m.sq)=true) (hT:T=Jb.put0 s m) (a:Act) (ha:Fr 197 [(1, .int .i64 now),(3, .pointer (some ⟨w.heap.size,0,none⟩)),(5, .pointer (some ⟨w.heap.size+1,0,none⟩)),(6, .pointer (some ⟨w.heap.size+1+1,0,none⟩)),(10, .slice A1 l1.length c1)] a):firstWp Tryz.prog rp4_code (bodyPost Tryz.prog Tryz.f54 (PutQ T (l1.map TW.w) m MA l w)) a W:=by
 obtain ⟨s_,rfl,e1,e3,e5,e6,e10,_⟩:=ha
 rw [r197,e1,e3,e5,e6,e10]
 clear e1 e3 e5 e6 e10
 have ht:T=({ s with twice:=s.twice+1 }, 3):=by rw [hT];exact zgz s m hany
 rw [← S.hq] at hany
 obtain ⟨p,hp,hp1,hp2⟩:=zvf hany
 have n200:=I.n200
 have tw0:=I.tw0
 have tw1:s.twice+1≤9000000000000000000:=Int.le_trans (Int.add_le_add_right I.tw1 1) (by decide)
 have HT:=H9 ht
 have HP:=H9 hp1
 have HP2:=H9 hp2
 have HN:=H9 N
 have HMI:=H9 MI
 clear hT ht hany hp1 hp2 N I MI
 refine zay ?_
 intro _ _ _ _
 go_wp2_with fail
 go_loopg [12] l2.length (fun gk i wr => ∃ (k:Nat),gk+k=l2.length∧i = .int .i64 k∧k≤p∧Hid (RQ w wr s m MA mc A1 l1 A2 c2 l2))
 case atStart=>exact ⟨0,rfl,rfl,Nat.zero_le _,H9 S⟩
 case round =>
  obtain ⟨k,hgk,rfl,hkp,S2⟩:=hrel
  have hi0:(0:Int)≤(k:Int):=by omega
  have b10:wr.cell? ⟨w.heap.size,10,none⟩=some (.slice A2 l2.length c2):=S2.out.b0.at 10 _ rfl
  have m0:wr.cell? ⟨w.heap.size+1,0,none⟩=some (.int .i64 m.sq):=S2.out.b1.at 0 _ rfl
  have hi1:(k:Int)<(l2.length:Int):=Int.ofNat_lt.2 (Nat.lt_of_le_of_lt hkp hp)
  by_cases hk:k<p
  · obtain ⟨a,ha⟩:∃ a,l2[k]? = some a:=⟨_,List.getElem?_eq_getElem (by omega)⟩
    obtain ⟨bq,oq,rfl,hbq, -, e1, -⟩:=zbs S2.out.p2.1 ha
    have hne:=HP2.out k a hk ha
    obtain ⟨sq8,hsq8⟩:∃ x,x=a.w.m.sq:=⟨_,rfl⟩
    rw [← hsq8] at e1 hne
    clear ha hsq8
    have hee:(sq8==m.sq)=false:=by simpa using hne
    clear hne
    go_wp2_with fail
    go_quiet (fail)
    go_wp2_with fail
    go_roundg (gk-1)
    case measure=>omega
    case rel=>exact ⟨k+1,by omega,by go_num,hk,H9 (S2.out.drewN _)⟩
  obtain ⟨a,ha⟩:∃ a,l2[k]? = some a:=⟨_,List.getElem?_eq_getElem (by omega)⟩
  obtain ⟨bq,oq,rfl,hbq, -, e1, -⟩:=zbs S2.out.p2.1 ha
  have hne:a.w.m.sq=m.sq:=HP.out a (by rw [← show k=p by omega];exact ha)
  obtain ⟨sq8,hsq8⟩:∃ x,x=a.w.m.sq:=⟨_,rfl⟩
  rw [← hsq8] at e1 hne
  clear ha hsq8
  have hee:(sq8==m.sq)=true:=by simpa using hne
  clear hne
  go_wp2_with fail
  go_quiet (fail)
  clear b10 m0
  replace S2:=H9 (S2.out.drewN nq)
  generalize wr.drewN nq=W7 at S2 ⊢
  have b12:W7.cell? ⟨w.heap.size,12,none⟩=some (.int .i64 s.twice):=S2.out.b0.at 12 _ rfl
  have bfz:=S2.out.b0.frozen
  go_upto_region 9 with fail
  clear b12 bfz
  have S3:=S2.out.put 12 (.int .i64 (s.twice+1)) { s with twice:=s.twice+1 }
  generalize W7.setCell _ _=W8 at S3 ⊢
  have N:=HN.out
  go_wp2_with (first|(refine zab rfl 40 (.tmp 3) rfl (w.heap.size) 0 rfl 40 (JL { s with twice:=s.twice+1 } (some ⟨bq,oq,none⟩) l2.length c2) S3.b0 14 _ Tryz.underlying40 zao (show 0+14≤14 by decide) (JL { s with twice:=s.twice+1 } (some ⟨bq,oq,none⟩) l2.length c2).toArray (by rfl) rfl ?_)|(refine zac rfl 40 (.tmp 6) (.tmp 57) rfl (w.heap.size+1+1) 0 rfl 40 (JL Jb.Jt.none none 0 0) S3.b2 (JL { s with twice:=s.twice+1 } (some ⟨bq,oq,none⟩) l2.length c2) rfl zao (show 0+14≤14 by decide) rfl (JL { s with twice:=s.twice+1 } (some ⟨bq,oq,none⟩) l2.length c2) rfl ?_;intro WB BB OB)|fail)
  exact bodyPost_ret (v := .tuple #[JV { s with twice:=s.twice+1 } (some ⟨bq,oq,none⟩) l2.length c2, .slice A1 l1.length c1, .int .u8 3, .int .u8 0]) (zar Tryz.results54 rfl (run_loadVar_row (P:=Tryz.prog) _ _ _ _ _ _ _ BB Tryz.underlying40 rfl (by kernel_rfl)) rfl rfl rfl) rfl (S3.done OB N HT.out)
theorem zvi {w W:World} {s:Jb.Jt} {m:Jb.Md} {MA:Option Addr} {mc:Nat} {A1:Option Addr} {l1 l:List TW} {c1:Nat} {A2:Option Addr} {c2:Nat} {l2:List TW} {now:Int} {T:Jb.Jt×Int} (S:RQ w W s m MA mc A1 l1 A2 c2 l2) (N:RN w.heap.size m MA l A1 l1 A2 l2) (MI:IntsAt w w.heap.size .u8 MA m.pl) (I:RI s m now l2.length) (hB:∀ a∈l2,a.w.at_≤562949953421312∧0≤a.w.at_) (hA:Jb.Asc s.q) (hzb : -1125899906842624≤(Jb.meas s m).zero∧(Jb.meas s m).zero≤1125899906842624) (hany:(s.q.any fun w=>w.m.sq==m.sq)=false) (hT:T=Jb.put0 s m) (a:Act) (ha:Fr 197 [(1, .int .i64 now),(3, .pointer (some ⟨w.heap.size,0,none⟩)),(5, .pointer (some ⟨w.heap.size+1,0,none⟩)),(6, .pointer (some ⟨w.heap.size+1+1,0,none⟩)),(10, .slice A1 l1.length c1)] a):firstWp Tryz.prog rp4_code (bodyPost Tryz.prog Tryz.f54 (PutQ T (l1.map TW.w) m MA l w)) a W:=by
 obtain ⟨s_,rfl,e1,e3,e5,e6,e10,_⟩:=ha
 rw [r197,e1,e3,e5,e6,e10]
 clear e1 e3 e5 e6 e10
 have n200:=I.n200
 have HANY:Hid (((l2.map TW.w).any fun w=>w.m.sq==m.sq)=false):=H9 (by rw [S.hq];exact hany)
 have HNEXT:=H9 fun (W:World) (S:RQ w W s m MA mc A1 l1 A2 c2 l2)=>zve (c1:=c1) S N MI I hB hA hzb hany hT
 clear hT hany N I MI hB hA hzb
 refine zay ?_
 intro _ _ _ _
 go_wp2_with fail
 go_loopg [12] l2.length (fun gk i wr => ∃ (k:Nat),gk+k=l2.length∧i = .int .i64 k∧Hid (RQ w wr s m MA mc A1 l1 A2 c2 l2))
 case atStart=>exact ⟨0,rfl,rfl,H9 S⟩
 case round =>
  obtain ⟨k,hgk,rfl,S2⟩:=hrel
  have hi0:(0:Int)≤(k:Int):=by omega
  have b10:wr.cell? ⟨w.heap.size,10,none⟩=some (.slice A2 l2.length c2):=S2.out.b0.at 10 _ rfl
  have m0:wr.cell? ⟨w.heap.size+1,0,none⟩=some (.int .i64 m.sq):=S2.out.b1.at 0 _ rfl
  by_cases hk:k<l2.length
  · have hi1:(k:Int)<(l2.length:Int):=by omega
    obtain ⟨a,ha⟩:∃ a,l2[k]? = some a:=⟨_,List.getElem?_eq_getElem (by omega)⟩
    obtain ⟨bq,oq,rfl,hbq, -, e1, -⟩:=zbs S2.out.p2.1 ha
    have hne:=zvg HANY.out ha
    obtain ⟨sq8,hsq8⟩:∃ x,x=a.w.m.sq:=⟨_,rfl⟩
    rw [← hsq8] at e1 hne
    clear ha hsq8
    have hee:(sq8==m.sq)=false:=by simpa using hne
    clear hne
    go_wp2_with fail
    go_quiet (fail)
    go_wp2_with fail
    go_roundg (gk-1)
    case measure=>omega
    case rel=>exact ⟨k+1,by omega,by go_num,H9 (S2.out.drewN _)⟩
  obtain rfl:k=l2.length:=by omega
  have hi1:(l2.length:Int)≤(l2.length:Int):=Int.le_refl _
  go_upto_region 10 with fail
  refine zbk (by assumption) (by assumption) ?_
  exact HNEXT.out _ S2.out _ (Fr.mk rfl ⟨rfl,rfl,rfl,rfl,rfl,trivial⟩)
theorem RQ.new {w:World} (s:Jb.Jt) {A:Option Addr} {l:List TW} {c:Nat} (m:Jb.Md) (MA:Option Addr) (mc:Nat) (hq:l.map TW.w=s.q) (hcap:l.length≤c) (hcm:c≤maxLen) (hA:Wts w w.heap.size A l):RQ w (((w.alloc (.cells #[.int .i64 s.least, .int .i64 s.most, .int .i64 s.now, .bool s.on, .int .i64 s.zero, .int .i64 s.first, .int .i64 s.high, .int .i64 s.done, .int .i64 s.spread, .int .i64 s.trans, .slice A l.length c, .int .i64 s.late, .int .i64 s.twice, .int .i64 s.played] 40)).alloc (.cells #[.int .i64 m.sq, .int .i64 m.ti, .bool m.mrk, .int .u8 m.ty, .slice MA m.pl.length mc] 103)).alloc (.cells (JL Jb.Jt.none none 0 0).toArray 40)) s m MA mc none [] A c l:=by
 have u:=(((Bel.refl w).push (.cells #[.int .i64 s.least, .int .i64 s.most, .int .i64 s.now, .bool s.on, .int .i64 s.zero, .int .i64 s.first, .int .i64 s.high, .int .i64 s.done, .int .i64 s.spread, .int .i64 s.trans, .slice A l.length c, .int .i64 s.late, .int .i64 s.twice, .int .i64 s.played] 40)).push (.cells #[.int .i64 m.sq, .int .i64 m.ti, .bool m.mrk, .int .u8 m.ty, .slice MA m.pl.length mc] 103)).push (.cells (JL Jb.Jt.none none 0 0).toArray 40)
 exact ⟨((Blk.new w _ _).push _).push _,(Blk.new1 _ _ _ _).push _,Blk.new2 _ _ _ _ _,u,⟨fun h=>absurd h (Nat.lt_irrefl _),fun a ha=>by cases ha⟩,hA.later u,hq,hcap,hcm⟩
theorem RQ.box {w W W':World} {s s':Jb.Jt} {m:Jb.Md} {MA A1 A2 A3 A4:Option Addr} {mc c2 c4:Nat} {l1 l2 l3 l4:List TW} (h:RQ w W s m MA mc A1 l1 A2 c2 l2) (ho:OnlyB w.heap.size W W') (hb:Blk W' w.heap.size 40 (JL s' A4 l4.length c4).toArray) (h3:Wts W W.heap.size A3 l3) (h4:Wts W W.heap.size A4 l4) (hq:l4.map TW.w=s'.q) (hc:l4.length≤c4) (hm:c4≤maxLen):RQ w W' s' m MA mc A3 l3 A4 c4 l4:=by
 have hk:∀ p:Addr,p.block≠w.heap.size→W'.cell? p=W.cell? p:=fun p hp=>ho.cell hp
 exact ⟨hb,ho.blk h.b1 (by omega),ho.blk h.b2 (by omega),ho.bel h.u (Nat.le_refl _),by rw [ho.2];exact h3.keepNe h.b0 (zkl _ _ _ _) hk,by rw [ho.2];exact h4.keepNe h.b0 (zkl _ _ _ _) hk,hq,hc,hm⟩
theorem zvj (s:Jb.Jt) (A:Option Addr) (l:List TW) (c:Nat) (now:Int) (m:Jb.Md) (MA:Option Addr) (mc:Nat) (w:World) (hq:l.map TW.w=s.q) (hl:l.length≤100000) (hcap:l.length≤c) (hcm:c≤maxLen) (hA:Wts w w.heap.size A l) (hP:∀ a∈l,a.w.m.pl.length≤1000000000) (hm9:m.pl.length≤100000) (hMI:IntsAt w w.heap.size .u8 MA m.pl) (r:Int) (hr:r=Jb.chk s now (decide m.ok)) (hr0:¬r=0):Calls Tryz.prog 54 #[.agg #[.int .i64 s.least, .int .i64 s.most, .int .i64 s.now, .bool s.on, .int .i64 s.zero, .int .i64 s.first, .int .i64 s.high, .int .i64 s.done, .int .i64 s.spread, .int .i64 s.trans, .slice A l.length c, .int .i64 s.late, .int .i64 s.twice, .int .i64 s.played], .int .i64 now, .agg #[.int .i64 m.sq, .int .i64 m.ti, .bool m.mrk, .int .u8 m.ty, .slice MA m.pl.length mc]] w (JPutB s now m MA l w):=by
 have hput:Jb.put s now m=(Jb.Jt.none,[],0,r):=by unfold Jb.put;rw [← hr,if_neg hr0]
 have HPUT:=H9 hput
 clear hput
 have S:=RQ.new s m MA mc hq hcap hcm hA
 obtain ⟨fm,hfm0⟩:∃ fm,fm=decide m.ok:=⟨_,rfl⟩
 have k0:=H9 fun W=>zdh m.sq m.ti m.mrk m.ty MA m.pl.length mc W (by omega) fm (by rw [hfm0];rfl)
 rw [← hfm0] at hr
 have k1:=H9 fun (W:World) (hW:Wts W W.heap.size A l)=>zed s.least s.most s.now s.on s.zero s.first s.high s.done s.spread s.trans A l l.length c s.late s.twice s.played now fm W rfl hl hW hP r (by rw [hq];exact hr)
 have hne:(r != 0)=true:=by simpa using hr0
 clear hr hA hMI hP hfm0 hcap hcm hr0
 go_enter Tryz.func54,Tryz.ntmps54
 go_upto_region 1 with fail
 change Code.wp _ _ _ _ (((w.alloc (.cells #[.int .i64 s.least, .int .i64 s.most, .int .i64 s.now, .bool s.on, .int .i64 s.zero, .int .i64 s.first, .int .i64 s.high, .int .i64 s.done, .int .i64 s.spread, .int .i64 s.trans, .slice A l.length c, .int .i64 s.late, .int .i64 s.twice, .int .i64 s.played] 40)).alloc (.cells #[.int .i64 m.sq, .int .i64 m.ti, .bool m.mrk, .int .u8 m.ty, .slice MA m.pl.length mc] 103)).alloc (.cells (JL Jb.Jt.none none 0 0).toArray 40))
 generalize ((w.alloc _).alloc _).alloc _=W0 at S ⊢
 refine wp_region_held_drew (S:=fun w'=>RQ w w' s m MA mc none [] A c l) (by kernel_rfl) (S.drewN 1) (fun qH => ?_)
 clear S
 refine tk1 (i:=0) (v := .agg #[.int .i64 s.least, .int .i64 s.most, .int .i64 s.now, .bool s.on, .int .i64 s.zero, .int .i64 s.first, .int .i64 s.high, .int .i64 s.done, .int .i64 s.spread, .int .i64 s.trans, .slice A l.length c, .int .i64 s.late, .int .i64 s.twice, .int .i64 s.played]) rfl (zap rfl 40 (.tmp 3) rfl w.heap.size 0 rfl 40 (JL s A l.length c) (fun w h=>h.b0) 14 _ Tryz.underlying40 zao (Nat.le_refl 14) _ rfl rfl) qH ?_
 try simp only [ss9]
 refine tk1 (i:=1) (v := .int .i64 now) rfl (Or.inl ⟨by rfl,fun w _=>by go_simp;try with_reducible rfl⟩) qH ?_
 try simp only [ss9]
 refine tk1 (i:=2) (v := .agg #[.int .i64 m.sq, .int .i64 m.ti, .bool m.mrk, .int .u8 m.ty, .slice MA m.pl.length mc]) rfl (zap rfl 103 (.tmp 5) rfl (w.heap.size+1) 0 rfl 103 (ML m MA m.pl.length mc) (fun w h=>h.b1) 5 _ Tryz.underlying103 zcu (Nat.le_refl 5) _ rfl rfl) qH ?_
 try simp only [ss9]
 refine wpAnyH_ready (rs:=[3]) (by kernel_rfl) (by simp) ?_
 refine AllReadyH.cons (o:=_) rfl (fun K hK => ?_) AllReadyH.nil
 go_simp
 go_at_call 118
 refine (k0.out _).mono ?_
 rintro e w1 ⟨rfl,hb1⟩
 refine hK.out _ _ (qH.later hb1) (fun qH => ?_)
 clear hK K hb1
 try simp only [ss9]
 refine wpAnyH_ready (rs:=[4]) (by kernel_rfl) (by simp) ?_
 refine AllReadyH.cons (o:=_) rfl (fun K hK => ?_) AllReadyH.nil
 go_simp
 go_at_call 117
 refine (k1.out _ qH.p2).mono ?_
 rintro e w2 ⟨rfl,hb2⟩
 refine hK.out _ _ (qH.later hb2) (fun qH => ?_)
 clear hK K hb2
 try simp only [ss9]
 refine tk1 (i:=5) (v := .bool true) rfl (Or.inl ⟨by rfl,fun w _=>by go_simp;try with_reducible rfl⟩) qH ?_
 try simp only [ss9]
 refine wpAnyH_done (by kernel_rfl) ?_ _
 clear hne
 go_upto_region 2 with fail
 have S:=qH
 clear qH
 refine wp_region_held_drew (S:=fun w'=>RQ w w' s m MA mc none [] A c l) (by kernel_rfl) (S.drewN 1) (fun qH => ?_)
 clear S
 refine tk1 (i:=0) (v := .agg (JL Jb.Jt.none none 0 0).toArray) rfl (Or.inl ⟨by rfl,fun w _=>by go_simp;try rfl⟩) qH ?_
 try simp only [ss9]
 refine tk1 (i:=1) (v := .agg #[.int .i64 s.least, .int .i64 s.most, .int .i64 s.now, .bool s.on, .int .i64 s.zero, .int .i64 s.first, .int .i64 s.high, .int .i64 s.done, .int .i64 s.spread, .int .i64 s.trans, .slice A l.length c, .int .i64 s.late, .int .i64 s.twice, .int .i64 s.played]) rfl (zap rfl 40 (.tmp 3) rfl w.heap.size 0 rfl 40 (JL s A l.length c) (fun w h=>h.b0) 14 _ Tryz.underlying40 zao (Nat.le_refl 14) _ rfl rfl) qH ?_
 try simp only [ss9]
 refine tk1 (i:=2) (v := .int .i64 now) rfl (Or.inl ⟨by rfl,fun w _=>by go_simp;try with_reducible rfl⟩) qH ?_
 try simp only [ss9]
 refine tk1 (i:=3) (v := .agg #[.int .i64 m.sq, .int .i64 m.ti, .bool m.mrk, .int .u8 m.ty, .slice MA m.pl.length mc]) rfl (zap rfl 103 (.tmp 5) rfl (w.heap.size+1) 0 rfl 103 (ML m MA m.pl.length mc) (fun w h=>h.b1) 5 _ Tryz.underlying103 zcu (Nat.le_refl 5) _ rfl rfl) qH ?_
 try simp only [ss9]
 refine wpAnyH_ready (rs:=[4]) (by kernel_rfl) (by simp) ?_
 refine AllReadyH.cons (o:=_) rfl (fun K hK => ?_) AllReadyH.nil
 go_simp
 go_at_call 118
 refine (k0.out _).mono ?_
 rintro e w1 ⟨rfl,hb1⟩
 refine hK.out _ _ (qH.later hb1) (fun qH => ?_)
 clear hK K hb1
 try simp only [ss9]
 refine wpAnyH_ready (rs:=[5]) (by kernel_rfl) (by simp) ?_
 refine AllReadyH.cons (o:=_) rfl (fun K hK => ?_) AllReadyH.nil
 go_simp
 go_at_call 117
 refine (k1.out _ qH.p2).mono ?_
 rintro e w2 ⟨rfl,hb2⟩
 refine hK.out _ _ (qH.later hb2) (fun qH => ?_)
 clear hK K hb2
 try simp only [ss9]
 refine wpAnyH_ready (rs:=[6]) (by kernel_rfl) (by simp) ?_
 refine AllReadyH.cons (o:=_) rfl (fun K hK => ?_) AllReadyH.nil
 refine zan rfl 40 (.tmp 6) (.tmp 23) rfl (w.heap.size+1+1) 0 rfl 40 (JL Jb.Jt.none none 0 0) qH.b2 (JL Jb.Jt.none none 0 0) rfl zao (Nat.le_refl 14) rfl (JL Jb.Jt.none none 0 0) rfl ?_
 intro WH BH OH
 have hS:RQ w WH s m MA mc none [] A c l:=⟨OH.blk qH.b0 (by omega),OH.blk qH.b1 (by omega),BH,OH.bel qH.u (by omega),⟨fun h=>absurd h (Nat.lt_irrefl _),fun a ha=>by cases ha⟩,by rw [OH.2];exact qH.p2.keepNe qH.b2 (zkl _ _ _ _) (fun p hp=>OH.cell hp),qH.hq,qH.cap,qH.cm⟩
 refine hK.out _ _ hS (fun qH => ?_)
 clear hK K hS
 try simp only [ss9]
 refine tk1 (i:=7) (v := .slice none 0 0) rfl (Or.inl ⟨by rfl,fun w _=>by go_simp;try with_reducible rfl⟩) qH ?_
 try simp only [ss9]
 refine tk1 (i:=8) (v := .int .u8 0) rfl (Or.inl ⟨by rfl,fun w _=>by go_simp;try with_reducible rfl⟩) qH ?_
 try simp only [ss9]
 refine tk1 (i:=9) (v := .int .u8 r) rfl (Or.inl ⟨by rfl,fun w _=>by go_simp;try with_reducible rfl⟩) qH ?_
 try simp only [ss9]
 refine wpAnyH_done (by kernel_rfl) ?_ _
 go_wp2_with fail
 exact bodyPost_ret (v := .tuple #[JV Jb.Jt.none none 0 0, .slice none 0 0, .int .u8 0, .int .u8 r]) (zar Tryz.results54 rfl (run_loadVar_row (P:=Tryz.prog) _ _ _ _ _ _ _ qH.b2 Tryz.underlying40 rfl (by kernel_rfl)) rfl rfl rfl) rfl ⟨none,0,[],none,0,[],by rw [HPUT.out];rfl,by rw [HPUT.out];rfl,by rw [HPUT.out];rfl,qH.p1,qH.p1,Nat.le_refl _,Nat.zero_le _,qH.u,⟨fun h=>absurd h (Nat.lt_irrefl _),fun a ha=>by cases ha⟩,fun h=>absurd h (Nat.lt_irrefl _),fun a ha=>by cases ha⟩
theorem PutQ.of {T:Jb.Jt×Int} {D:List Jb.Wt} {s:Jb.Jt} {now:Int} {m:Jb.Md} {MA:Option Addr} {l:List TW} {w w':World} {e:Ending} (h:PutQ T D m MA l w e w') (hp:Jb.put s now m=(T.1,D,T.2,0)):JPutB s now m MA l w e w':=by
 obtain ⟨A1,c1,l1,A2,c2,l2,rfl,h1,h2,h3,h4,h5,h6,h7,N⟩:=h
 exact ⟨A1,c1,l1,A2,c2,l2,by rw [hp],by rw [hp];exact h1,by rw [hp];exact h2,h3,h4,h5,h6,h7,N.s1,N.r2,N.m2⟩
theorem zsp (s:Jb.Jt) (A:Option Addr) (l:List TW) (c:Nat) (now:Int) (m:Jb.Md) (MA:Option Addr) (mc:Nat) (w:World) (hq:l.map TW.w=s.q) (hl:l.length≤100000) (hcap:l.length≤c) (hcm:c≤maxLen) (hA:Wts w w.heap.size A l) (hP:∀ a∈l,a.w.m.pl.length≤1000000000) (hm9:m.pl.length≤100000) (hMI:IntsAt w w.heap.size .u8 MA m.pl) (hr:Jb.chk s now (decide m.ok)=0):Calls Tryz.prog 54 #[.agg #[.int .i64 s.least, .int .i64 s.most, .int .i64 s.now, .bool s.on, .int .i64 s.zero, .int .i64 s.first, .int .i64 s.high, .int .i64 s.done, .int .i64 s.spread, .int .i64 s.trans, .slice A l.length c, .int .i64 s.late, .int .i64 s.twice, .int .i64 s.played], .int .i64 now, .agg #[.int .i64 m.sq, .int .i64 m.ti, .bool m.mrk, .int .u8 m.ty, .slice MA m.pl.length mc]] w (PutQ (Jb.put0 (Jb.run0 s now) m) (Jb.due now s.q) m MA l w):=by
 have S:=RQ.new s m MA mc hq hcap hcm hA
 obtain ⟨fm,hfm0⟩:∃ fm,fm=decide m.ok:=⟨_,rfl⟩
 have k0:=H9 fun W=>zdh m.sq m.ti m.mrk m.ty MA m.pl.length mc W (by omega) fm (by rw [hfm0];rfl)
 rw [← hfm0] at hr
 have k1:=H9 fun (W:World) (hW:Wts W W.heap.size A l)=>zed s.least s.most s.now s.on s.zero s.first s.high s.done s.spread s.trans A l l.length c s.late s.twice s.played now fm W rfl hl hW hP 0 (by rw [hq];exact hr.symm)
 obtain ⟨hok,hnow,hfm,hlt⟩:=zew hr
 have hmk:m.ok:=by rw [hfm0] at hfm;exact decide_eq_true_iff.1 hfm
 have hpf:=zjh s m now hok hmk hlt hnow
 have hrun:Jb.run s now=(Jb.run0 s now,Jb.due now s.q,0):=by unfold Jb.run;rw [Jb.chk_run hok hlt hnow,if_pos rfl]
 have k2:=H9 fun (W:World) (hW:Wts W W.heap.size A l)=>zpz s A l l.length c now W hq rfl hl hcap hcm hW hP
 unfold JRunB at k2
 rw [hrun] at k2
 have I0:∀ n,n≤200→RI (Jb.run0 s now) m now n:=fun n hn=>by
  obtain ⟨⟨⟨a0,a1⟩,⟨a2,a3⟩,⟨a4,a5⟩,⟨a6,a7⟩,_,_,a8,a9⟩,⟨c0,c1,c2⟩,⟨⟨d0,d1⟩,⟨d2,d3⟩,_⟩,_⟩:=hok
  obtain ⟨_,⟨g0,g1⟩,_⟩:=hmk
  exact ⟨hn,rfl,Int.le_trans a0 hlt,hnow,a2,a3,a6,a7,g0,g1,d0,d1,d2,d3,a8,Int.le_trans a9 (by decide),Int.le_trans (by decide) a4,Int.le_trans a5 (by decide),Int.le_trans (by decide) c0,Int.le_trans c1 c2,Int.le_trans (by decide) (Int.le_trans c0 c1),c2⟩
 have HPF:=H9 hpf
 have HI:=H9 I0
 have HMI:=H9 hMI
 generalize Jb.due now s.q=D at *
 have hq0:(Jb.run0 s now).q=Jb.left now s.q:=rfl
 have hh0:(Jb.run0 s now).now=now:=rfl
 have HQ0:=H9 (And.intro hq0 hh0)
 clear hq0 hh0
 obtain ⟨X,hX⟩:∃ X,X=Jb.run0 s now:=⟨_,rfl⟩
 rw [← hX] at k2 HI HQ0 HPF ⊢
 clear hX I0 hpf hrun
 clear hr hA hMI hP hfm0 hcap hcm hok hnow hmk hlt hfm
 go_enter Tryz.func54,Tryz.ntmps54
 go_upto_region 1 with fail
 change Code.wp _ _ _ _ (((w.alloc (.cells #[.int .i64 s.least, .int .i64 s.most, .int .i64 s.now, .bool s.on, .int .i64 s.zero, .int .i64 s.first, .int .i64 s.high, .int .i64 s.done, .int .i64 s.spread, .int .i64 s.trans, .slice A l.length c, .int .i64 s.late, .int .i64 s.twice, .int .i64 s.played] 40)).alloc (.cells #[.int .i64 m.sq, .int .i64 m.ti, .bool m.mrk, .int .u8 m.ty, .slice MA m.pl.length mc] 103)).alloc (.cells (JL Jb.Jt.none none 0 0).toArray 40))
 generalize ((w.alloc _).alloc _).alloc _=W0 at S ⊢
 refine wp_region_held_drew (S:=fun w'=>RQ w w' s m MA mc none [] A c l) (by kernel_rfl) (S.drewN 1) (fun qH => ?_)
 clear S
 refine tk1 (i:=0) (v := .agg #[.int .i64 s.least, .int .i64 s.most, .int .i64 s.now, .bool s.on, .int .i64 s.zero, .int .i64 s.first, .int .i64 s.high, .int .i64 s.done, .int .i64 s.spread, .int .i64 s.trans, .slice A l.length c, .int .i64 s.late, .int .i64 s.twice, .int .i64 s.played]) rfl (zap rfl 40 (.tmp 3) rfl w.heap.size 0 rfl 40 (JL s A l.length c) (fun w h=>h.b0) 14 _ Tryz.underlying40 zao (Nat.le_refl 14) _ rfl rfl) qH ?_
 try simp only [ss9]
 refine tk1 (i:=1) (v := .int .i64 now) rfl (Or.inl ⟨by rfl,fun w _=>by go_simp;try with_reducible rfl⟩) qH ?_
 try simp only [ss9]
 refine tk1 (i:=2) (v := .agg #[.int .i64 m.sq, .int .i64 m.ti, .bool m.mrk, .int .u8 m.ty, .slice MA m.pl.length mc]) rfl (zap rfl 103 (.tmp 5) rfl (w.heap.size+1) 0 rfl 103 (ML m MA m.pl.length mc) (fun w h=>h.b1) 5 _ Tryz.underlying103 zcu (Nat.le_refl 5) _ rfl rfl) qH ?_
 try simp only [ss9]
 refine wpAnyH_ready (rs:=[3]) (by kernel_rfl) (by simp) ?_
 refine AllReadyH.cons (o:=_) rfl (fun K hK => ?_) AllReadyH.nil
 go_simp
 go_at_call 118
 refine (k0.out _).mono ?_
 rintro e w1 ⟨rfl,hb1⟩
 refine hK.out _ _ (qH.later hb1) (fun qH => ?_)
 clear hK K hb1
 try simp only [ss9]
 refine wpAnyH_ready (rs:=[4]) (by kernel_rfl) (by simp) ?_
 refine AllReadyH.cons (o:=_) rfl (fun K hK => ?_) AllReadyH.nil
 go_simp
 go_at_call 117
 refine (k1.out _ qH.p2).mono ?_
 rintro e w2 ⟨rfl,hb2⟩
 refine hK.out _ _ (qH.later hb2) (fun qH => ?_)
 clear hK K hb2
 try simp only [ss9]
 refine tk1 (i:=5) (v := .bool false) rfl (Or.inl ⟨by rfl,fun w _=>by go_simp;try with_reducible rfl⟩) qH ?_
 try simp only [ss9]
 refine wpAnyH_done (by kernel_rfl) ?_ _
 have S:=qH
 clear qH k0 k1
 go_wp2_with (first|(refine zab rfl 40 (.tmp 3) rfl (w.heap.size) 0 rfl 40 (JL s A l.length c) S.b0 14 _ Tryz.underlying40 zao (show 0+14≤14 by decide) #[.int .i64 s.least, .int .i64 s.most, .int .i64 s.now, .bool s.on, .int .i64 s.zero, .int .i64 s.first, .int .i64 s.high, .int .i64 s.done, .int .i64 s.spread, .int .i64 s.trans, .slice A l.length c, .int .i64 s.late, .int .i64 s.twice, .int .i64 s.played] (by rfl) rfl ?_)|fail)
 refine (k2.out _ S.p2).mono ?_
 rintro e w3 ⟨A1,c1,l1,A2,c2,l2,rfl,hm1,hm2,hW1,hW2,hc2,hm2c,hb1,hs1,hs2⟩
 have hsz:=S.u.size
 have N:RN w.heap.size m MA l A1 l1 A2 l2:=⟨⟨fun h0 b off e=>Nat.le_trans hsz (hs1.row h0 b off e),hs1.sub⟩,fun h0 b off e=>Nat.le_trans hsz (hs2.row h0 b off e),fun a ha => .inl (hs2.sub a ha)⟩
 have HN:=H9 N
 dsimp only at hm1 hm2 ⊢
 subst hm1
 replace S:=S.later hb1
 have HM:=H9 (And.intro hm2 (And.intro hc2 hm2c))
 have HW:=H9 (And.intro hW1 hW2)
 clear hb1 hs1 hs2 N k2 hm2 hW1 hW2 hc2 hm2c
 unfold JV
 go_upto_region 4 with (first|(refine zac rfl 40 (.tmp 3) (.tmp 33) rfl (w.heap.size) 0 rfl 40 (JL s A l.length c) S.b0 (JL X A2 l2.length c2) rfl zao (show 0+14≤14 by decide) rfl (JL X A2 l2.length c2) rfl ?_;intro WB BB OB)|fail)
 have S2:=S.box OB BB HW.out.1 HW.out.2 HM.out.1 HM.out.2.1 HM.out.2.2
 have hok2:=HPF.out.2.2
 rw [← HQ0.out.1,← HM.out.1] at hok2
 have hasc:=Jb.okQ.asc hok2
 rw [HM.out.1] at hasc
 have hB:∀ a∈l2,a.w.at_≤562949953421312∧0≤a.w.at_:=fun a ha=>by
  have h9:=((Jb.okQ_iff _ _ _).1 hok2).2.1 a.w (List.mem_map.2 ⟨a,ha,rfl⟩)
  have h8:=h9.2.1
  have h7:=h9.2.2.1
  have h6:=(HI.out 0 (Nat.zero_le _)).n0
  omega
 have hl2:l2.length≤200:=by have:=hok2.1;simpa using this
 refine zbk (by assumption) (by assumption) ?_
 by_cases hany:(X.q.any fun w=>w.m.sq==m.sq)=true
 · exact zvh (c1:=c1) S2 HN.out HMI.out (HI.out _ hl2) hany rfl _ (Fr.mk rfl ⟨rfl,rfl,rfl,rfl,rfl,trivial⟩)
 · exact zvi (c1:=c1) S2 HN.out HMI.out (HI.out _ hl2) hB hasc HPF.out.1 (by simpa using hany) rfl _ (Fr.mk rfl ⟨rfl,rfl,rfl,rfl,rfl,trivial⟩)
theorem zwp (s:Jb.Jt) (A:Option Addr) (l:List TW) (n c:Nat) (now:Int) (m:Jb.Md) (MA:Option Addr) (mn mc:Nat) (w:World) (hq:l.map TW.w=s.q) (hn:l.length=n) (hl:n≤100000) (hcap:n≤c) (hcm:c≤maxLen) (hA:Wts w w.heap.size A l) (hP:∀ a∈l,a.w.m.pl.length≤1000000000) (hmn:m.pl.length=mn) (hm9:mn≤100000) (hMI:IntsAt w w.heap.size .u8 MA m.pl):Calls Tryz.prog 54 #[.agg #[.int .i64 s.least, .int .i64 s.most, .int .i64 s.now, .bool s.on, .int .i64 s.zero, .int .i64 s.first, .int .i64 s.high, .int .i64 s.done, .int .i64 s.spread, .int .i64 s.trans, .slice A n c, .int .i64 s.late, .int .i64 s.twice, .int .i64 s.played], .int .i64 now, .agg #[.int .i64 m.sq, .int .i64 m.ti, .bool m.mrk, .int .u8 m.ty, .slice MA mn mc]] w (JPutB s now m MA l w):=by
 subst hn
 subst hmn
 by_cases hr0:Jb.chk s now (decide m.ok)=0
 · exact (zsp s A l c now m MA mc w hq hl hcap hcm hA hP hm9 hMI hr0).mono fun e w' h=>h.of (by unfold Jb.put;rw [if_pos hr0])
 · exact zvj s A l c now m MA mc w hq hl hcap hcm hA hP hm9 hMI _ rfl hr0
end Go.Proofs.YtahbecinkciahaaGreat
