/- Layer 30: Valid of the program. -/
import Derived.Test.YtbcgnddpkiemoaaGreatSs9Q
import Derived.Test.YtbcgnddpkiemoaaGreatJtVNums
import Derived.Test.YtbcgnddpkiemoaaGreatJtCopyQ
import Derived.LoopN
import Derived.Test.YtbcgnddpkiemoaaGreatVoFunQ
import Derived.Lib.Overlaps
import Derived.Laws.CopyRow
import Derived.Lib.AppendZerosOnto
import Derived.Shelf.Spec.SlicesInsert
import Derived.Deep.RegionHeld3
import Derived.BigQuiet
import Derived.Deep.QuietTactic
import Derived.RegionTactic
set_option linter.unusedVariables false
set_option linter.unusedSimpArgs false
set_option maxRecDepth 100000
set_option maxHeartbeats 12800000
namespace Go.Proofs.YtbcgnddpkiemoaaGreat
variable {now TT:Int} {P:Program} {i n B g c lo p base c' mn mc n3:Nat} {o:Array Oper} {w W W' w':World} {xs:List Value} {A A1 A2 A' MA A3:Option Addr} {l l1 l2 l3:List TW} {m:Jb.Md} {T:Jb.Jt}
section
attribute [local go_sem ↓] zab zac
attribute [local go_sem] zaa zad
open Go.RowKit
theorem zmu (le B nw:Int) (on:Bool) (ze fi hi dn sp tr:Int) (A:Option Addr) (l:List TW) (n qc:Nat) (la tw pd:Int) (w:World) (hn:l.length=n) (hl:n≤100000) (p:Wts w w.heap.size A l) (o:∀ a∈l,I64 a.w.m.sq) (hx:Jb.Jt.nums ⟨le,B,nw,on,ze,fi,hi,dn,sp,tr,l.map TW.w,la,tw,pd⟩) (v:Bool) (hv:v=Jb.valid ⟨le,B,nw,on,ze,fi,hi,dn,sp,tr,l.map TW.w,la,tw,pd⟩):Calls Tryz.prog 80 #[.agg #[.int .i64 le, .int .i64 B, .int .i64 nw, .bool on, .int .i64 ze, .int .i64 fi, .int .i64 hi, .int .i64 dn, .int .i64 sp, .int .i64 tr, .slice A n qc, .int .i64 la, .int .i64 tw, .int .i64 pd]] w fun e w'=>e = .returned (.bool v)∧Below w.heap.size w w':=by
 subst hn
 have HX:=Z9 hx
 have E:=Z9 hv
 clear hv
 obtain ⟨⟨h0,h1⟩,⟨h2,h3⟩,⟨h4,h5⟩,⟨h6,x⟩,⟨u,t⟩,⟨Dp,j⟩,⟨f,z⟩⟩:=hx
 replace h0:0≤nw:=h0
 replace h1:nw≤281474976710656:=h1
 replace h2 : -1125899906842624≤ze:=h2
 replace h3:ze≤1125899906842624:=h3
 replace h4 : -1125899906842624≤tr:=h4
 replace h5:tr≤1125899906842624:=h5
 replace h6 : -281474976710656≤fi:=h6
 replace x:fi≤281474976710656:=x
 replace u : -1≤hi:=u
 replace t:hi≤281474976710656:=t
 replace Dp : -1≤dn:=Dp
 replace j:dn≤281474976710656:=j
 replace f:0≤sp:=f
 replace z:sp≤72057594037927936:=z
 obtain ⟨cv,Y⟩:=nm9 (decide (1≤le∧le≤B∧B≤1000))
 have k1:=Z9 fun W=>zfx le B W cv Y
 have HC:Hid (cv=decide (Jb.cfg le B)):=Z9 Y
 clear Y
 have HA:=Z9 p
 have HK:=Z9 o
 clear p o
 have BS:=Z9 (Blk.new w 37 #[.int .i64 le, .int .i64 B, .int .i64 nw, .bool on, .int .i64 ze, .int .i64 fi, .int .i64 hi, .int .i64 dn, .int .i64 sp, .int .i64 tr, .slice A l.length qc, .int .i64 la, .int .i64 tw, .int .i64 pd])
 have d:=Z9 ((Bel.refl w).push (.cells #[.int .i64 le, .int .i64 B, .int .i64 nw, .bool on, .int .i64 ze, .int .i64 fi, .int .i64 hi, .int .i64 dn, .int .i64 sp, .int .i64 tr, .slice A l.length qc, .int .i64 la, .int .i64 tw, .int .i64 pd] 37))
 cases cv
 · have hv:v=false:=by rw [E.out];exact zxk (fun h=>by have h2:=HC.out;rw [eq_comm,decide_eq_false_iff_not] at h2;exact h2 h)
   subst hv
   go_enter Tryz.func80,Tryz.ntmps80
   go_wp2_with fail
   refine (k1.out _).mono ?_
   rintro e w1 ⟨rfl,O⟩
   have c:=Z9 (d.out.later O)
   clear O
   go_wp2_with fail
   go_ret
   exact ⟨rfl,c.out⟩
 have g:Hid (Jb.cfg le B):=Z9 (by have h2:=HC.out;rw [eq_comm,decide_eq_true_iff] at h2;exact h2)
 clear HC
 go_enter Tryz.func80,Tryz.ntmps80
 go_wp2_with fail
 refine (k1.out _).mono ?_
 rintro e w1 ⟨rfl,O⟩
 have c:=Z9 (d.out.later O)
 have V:=Z9 (BS.out.later O)
 clear O BS d
 have QT:=V.out.at 11 _ rfl
 have g12:=V.out.at 12 _ rfl
 have g13:=V.out.at 13 _ rfl
 go_wp2_with fail
 go_loop [90] (fun i => ∃ k:Nat,k≤3∧i = .int .i64 k∧Hid ((0<k→(0≤la∧la≤281474976710656))∧(1<k→(0≤tw∧tw≤281474976710656))∧(2<k→(0≤pd∧pd≤281474976710656)))) (fun i=>3-(intOf i).toNat)
 case atStart=>exact ⟨0,by omega,rfl,Z9 ⟨fun h=>absurd h (by omega),fun h=>absurd h (by omega),fun h=>absurd h (by omega)⟩⟩
 case round =>
  obtain ⟨k,hk,rfl,N⟩:=hrel
  have D:=Z9 (c.out.push (.cells #[.int .i64 la, .int .i64 tw, .int .i64 pd] 3))
  have NR:k=0∨k=1∨k=2∨k=3:=by omega
  rcases NR with rfl|rfl|rfl|rfl
  · by_cases c1:la<0
    · have hv:v=false:=by rw [E.out];refine zdr (fun h => ?_);obtain ⟨⟨z1,J⟩,⟨I,H⟩,⟨G,F⟩⟩:=h;simp only at z1 J I H G F;omega
      subst hv
      go_wp2_with fail
      go_ret
      exact ⟨rfl,D.out⟩
    have R:0≤la:=by omega
    by_cases c2:281474976710656<la
    · have hv:v=false:=by rw [E.out];refine zdr (fun h => ?_);obtain ⟨⟨z1,J⟩,⟨I,H⟩,⟨G,F⟩⟩:=h;simp only at z1 J I H G F;omega
      subst hv
      go_wp2_with fail
      go_ret
      exact ⟨rfl,D.out⟩
    have T:la≤281474976710656:=by omega
    go_wp2_with fail
    go_round
    case measure=>simp [intOf]
    case rel=>exact ⟨1,by omega,by go_num,Z9 ⟨fun _=>⟨R,T⟩,fun h=>absurd h (by omega),fun h=>absurd h (by omega)⟩⟩
  · by_cases c1:tw<0
    · have hv:v=false:=by rw [E.out];refine zdr (fun h => ?_);obtain ⟨⟨z1,J⟩,⟨I,H⟩,⟨G,F⟩⟩:=h;simp only at z1 J I H G F;omega
      subst hv
      go_wp2_with fail
      go_ret
      exact ⟨rfl,D.out⟩
    have R:0≤tw:=by omega
    by_cases c2:281474976710656<tw
    · have hv:v=false:=by rw [E.out];refine zdr (fun h => ?_);obtain ⟨⟨z1,J⟩,⟨I,H⟩,⟨G,F⟩⟩:=h;simp only at z1 J I H G F;omega
      subst hv
      go_wp2_with fail
      go_ret
      exact ⟨rfl,D.out⟩
    have T:tw≤281474976710656:=by omega
    go_wp2_with fail
    go_round
    case measure=>simp [intOf]
    case rel=>exact ⟨2,by omega,by go_num,Z9 ⟨fun _=>N.out.1 (by omega),fun _=>⟨R,T⟩,fun h=>absurd h (by omega)⟩⟩
  · by_cases c1:pd<0
    · have hv:v=false:=by rw [E.out];refine zdr (fun h => ?_);obtain ⟨⟨z1,J⟩,⟨I,H⟩,⟨G,F⟩⟩:=h;simp only at z1 J I H G F;omega
      subst hv
      go_wp2_with fail
      go_ret
      exact ⟨rfl,D.out⟩
    have R:0≤pd:=by omega
    by_cases c2:281474976710656<pd
    · have hv:v=false:=by rw [E.out];refine zdr (fun h => ?_);obtain ⟨⟨z1,J⟩,⟨I,H⟩,⟨G,F⟩⟩:=h;simp only at z1 J I H G F;omega
      subst hv
      go_wp2_with fail
      go_ret
      exact ⟨rfl,D.out⟩
    have T:pd≤281474976710656:=by omega
    go_wp2_with fail
    go_round
    case measure=>simp [intOf]
    case rel=>exact ⟨3,by omega,by go_num,Z9 ⟨fun _=>N.out.1 (by omega),fun _=>N.out.2.1 (by omega),fun _=>⟨R,T⟩⟩⟩
  · have y:Hid (Jb.Jt.cnts ⟨le,B,nw,on,ze,fi,hi,dn,sp,tr,l.map TW.w,la,tw,pd⟩):=Z9 ⟨N.out.1 (by omega),N.out.2.1 (by omega),N.out.2.2 (by omega)⟩
    have C:=Z9 (V.out.push (.cells #[.int .i64 la, .int .i64 tw, .int .i64 pd] 3))
    have g0:=C.out.at 0 _ rfl
    have g1:=C.out.at 1 _ rfl
    have g2:=C.out.at 2 _ rfl
    have g3:=C.out.at 3 _ rfl
    have g4:=C.out.at 4 _ rfl
    have g5:=C.out.at 5 _ rfl
    have g6:=C.out.at 6 _ rfl
    have g7:=C.out.at 7 _ rfl
    have g8:=C.out.at 8 _ rfl
    have g9:=C.out.at 9 _ rfl
    have Sy:=C.out.at 10 _ rfl
    have L1:=C.out.at 11 _ rfl
    have L0:=C.out.at 12 _ rfl
    have K8:=C.out.at 13 _ rfl
    have X:=Z9 fun (W:World) (P:Bel w W)=>zct le B nw on ze fi hi dn sp tr A l l.length qc la tw pd W rfl hl ((HA.out.below P).more P.size) HK.out (decide (Jb.okQ nw hi (l.map TW.w))) rfl
    cases on
    rotate_left
    · have hv:v=decide (Jb.okQ nw hi (l.map TW.w)):=by rw [E.out];exact zud HX.out g.out y.out (Or.inl rfl)
      have Z:=Z9 hv
      clear hv
      go_wp2_with fail
      refine (X.out _ D.out).mono ?_
      rintro e w2 ⟨rfl,U⟩
      have b:=Z9 (D.out.later U)
      clear U
      go_wp2_with fail
      go_ret
      exact ⟨zup Z.out.symm,b.out⟩
    by_cases M:l.length=0
    rotate_left
    · have hv:v=false:=by rw [E.out];refine zjl (fun h => ?_);rcases h with h|⟨M,K,L⟩;exact absurd h (by simp);simp only [List.length_map] at M K L;omega
      subst hv
      have Q:(0:Int)<(l.length:Int):=by omega
      go_wp2_with fail
      go_ret
      exact ⟨rfl,D.out⟩
    have Q:(l.length:Int)≤0:=by omega
    by_cases K:hi = -1
    rotate_left
    · have hv:v=false:=by rw [E.out];refine zjl (fun h => ?_);rcases h with h|⟨M,K,L⟩;exact absurd h (by simp);simp only [List.length_map] at M K L;omega
      subst hv
      have GY:(hi != -1)=true:=by simpa using K
      go_wp2_with fail
      go_ret
      exact ⟨rfl,D.out⟩
    by_cases L:dn = -1
    rotate_left
    · have hv:v=false:=by rw [E.out];refine zjl (fun h => ?_);rcases h with h|⟨M,K,L⟩;exact absurd h (by simp);simp only [List.length_map] at M K L;omega
      subst hv
      have VT:(dn != -1)=true:=by simpa using L
      have GY:(hi != -1)=false:=by simpa using K
      go_wp2_with fail
      go_ret
      exact ⟨rfl,D.out⟩
    have Cs:Jb.Jt.rest ⟨le,B,nw,false,ze,fi,hi,dn,sp,tr,l.map TW.w,la,tw,pd⟩:=Or.inr ⟨by simpa using M,K,L⟩
    have Q6:=Z9 Cs
    have VT:(dn != -1)=false:=by simpa using L
    have GY:(hi != -1)=false:=by simpa using K
    clear K L Cs Q
    obtain rfl:l=[]:=List.eq_nil_of_length_eq_zero M
    clear M
    simp only [List.length_nil] at Sy
    have X:=Z9 fun (W:World) (P:Bel w W)=>zct le B nw false ze fi hi dn sp tr A [] 0 qc la tw pd W rfl (by omega) ((HA.out.below P).more P.size) HK.out (decide (Jb.okQ nw hi (([]:List TW).map TW.w))) rfl
    have hv:v=decide (Jb.okQ nw hi (([]:List TW).map TW.w)):=by rw [E.out];exact zud HX.out g.out y.out (Q6.out)
    have Z:=Z9 hv
    clear hv
    go_wp2_with fail
    refine (X.out _ D.out).mono ?_
    rintro e w2 ⟨rfl,U⟩
    have b:=Z9 (D.out.later U)
    clear U
    go_wp2_with fail
    go_ret
    exact ⟨zup Z.out.symm,b.out⟩
theorem zil (le B nw:Int) (on:Bool) (ze fi hi dn sp tr:Int) (A:Option Addr) (l:List TW) (n qc:Nat) (la tw pd:Int) (w:World) (hn:l.length=n) (hl:n≤100000) (D:Wts w w.heap.size A l) (C:∀ a∈l,I64 a.w.m.sq) (v:Bool) (hv:v=Jb.valid ⟨le,B,nw,on,ze,fi,hi,dn,sp,tr,l.map TW.w,la,tw,pd⟩):Calls Tryz.prog 80 #[.agg #[.int .i64 le, .int .i64 B, .int .i64 nw, .bool on, .int .i64 ze, .int .i64 fi, .int .i64 hi, .int .i64 dn, .int .i64 sp, .int .i64 tr, .slice A n qc, .int .i64 la, .int .i64 tw, .int .i64 pd]] w fun e w'=>e = .returned (.bool v)∧Below w.heap.size w w':=by
 by_cases hx:Jb.Jt.nums ⟨le,B,nw,on,ze,fi,hi,dn,sp,tr,l.map TW.w,la,tw,pd⟩
 · exact zmu le B nw on ze fi hi dn sp tr A l n qc la tw pd w hn hl D C hx v hv
 · rw [hv];exact zmm le B nw on ze fi hi dn sp tr A l n qc la tw pd w hn hx
theorem zhf {s:Jb.Jt} {fm:Bool} (h:Jb.valid s=false∨281474976710656<now∨fm=false):Jb.chk s now fm=2:=by
 unfold Jb.chk
 rw [if_pos]
 rcases h with h|h|h
 · left;unfold Jb.valid at h;simpa using h
 · exact Or.inr (Or.inl h)
 · exact Or.inr (Or.inr h)
theorem zti {s:Jb.Jt} {fm:Bool} (h:Jb.valid s=true) (h2:now≤281474976710656) (h3:fm=true):Jb.chk s now fm=if now<s.now then 9 else 0:=by
 unfold Jb.chk
 rw [if_neg]
 rintro (h4|h4|h4)
 · unfold Jb.valid at h;exact h4 (by simpa using h)
 · omega
 · rw [h3] at h4;cases h4
theorem zfk (le H nw:Int) (on:Bool) (ze fi hi dn sp tr:Int) (A:Option Addr) (l:List TW) (n qc:Nat) (la tw pd:Int) (now:Int) (sq ti:Int) (mk:Bool) (ty:Int) (MA:Option Addr) (mn mc:Nat) (w:World) (hn:l.length=n) (hl:n≤100000) (Y:Wts w w.heap.size A l) (X:∀ a∈l,I64 a.w.m.sq) (fm:Bool) (Z:fm=decide ((0≤sq∧sq≤281474976710656)∧(-281474976710656≤ti∧ti≤281474976710656)∧mn≤1500)) (r:Int) (hr:r=Jb.chk ⟨le,H,nw,on,ze,fi,hi,dn,sp,tr,l.map TW.w,la,tw,pd⟩ now fm):Calls Tryz.prog 92 #[.agg #[.int .i64 le, .int .i64 H, .int .i64 nw, .bool on, .int .i64 ze, .int .i64 fi, .int .i64 hi, .int .i64 dn, .int .i64 sp, .int .i64 tr, .slice A n qc, .int .i64 la, .int .i64 tw, .int .i64 pd], .int .i64 now, .agg #[.int .i64 sq, .int .i64 ti, .bool mk, .int .u8 ty, .slice MA mn mc]] w fun e w'=>e = .returned (.int .u8 r)∧Below w.heap.size w w':=by
 subst hn
 have HR:=Z9 hr
 have T:=Z9 fun W=>zfy sq ti mk ty MA mn mc W fm Z
 clear hr Z
 obtain ⟨U,R⟩:=nm9 (Jb.valid ⟨le,H,nw,on,ze,fi,hi,dn,sp,tr,l.map TW.w,la,tw,pd⟩)
 have b:=Z9 R
 have k1:=Z9 fun (W:World) (V:Bel w W)=>zil le H nw on ze fi hi dn sp tr A l l.length qc la tw pd W rfl hl ((Y.below V).more V.size) X U R
 have F:=Z9 (((Bel.refl w).push (.cells #[.int .i64 le, .int .i64 H, .int .i64 nw, .bool on, .int .i64 ze, .int .i64 fi, .int .i64 hi, .int .i64 dn, .int .i64 sp, .int .i64 tr, .slice A l.length qc, .int .i64 la, .int .i64 tw, .int .i64 pd] 37)).push (.cells #[.int .i64 sq, .int .i64 ti, .bool mk, .int .u8 ty, .slice MA mn mc] 183))
 have J:=Z9 ((Blk.new w 37 #[.int .i64 le, .int .i64 H, .int .i64 nw, .bool on, .int .i64 ze, .int .i64 fi, .int .i64 hi, .int .i64 dn, .int .i64 sp, .int .i64 tr, .slice A l.length qc, .int .i64 la, .int .i64 tw, .int .i64 pd]).push (.cells #[.int .i64 sq, .int .i64 ti, .bool mk, .int .u8 ty, .slice MA mn mc] 183))
 have K:=Z9 (Blk.new1 w (.cells #[.int .i64 le, .int .i64 H, .int .i64 nw, .bool on, .int .i64 ze, .int .i64 fi, .int .i64 hi, .int .i64 dn, .int .i64 sp, .int .i64 tr, .slice A l.length qc, .int .i64 la, .int .i64 tw, .int .i64 pd] 37) 183 #[.int .i64 sq, .int .i64 ti, .bool mk, .int .u8 ty, .slice MA mn mc])
 clear Y X R
 cases U
 · obtain rfl:r=2:=by rw [HR.out];exact zhf (Or.inl b.out.symm)
   go_enter Tryz.func92,Tryz.ntmps92
   go_wp2_with fail
   refine (k1.out _ F.out).mono ?_
   rintro e w1 ⟨rfl,C⟩
   have G:=Z9 (F.out.later C)
   have D:=Z9 (J.out.later C)
   have B:=Z9 (K.out.later C)
   have g1:=D.out.at 2 _ rfl
   have P:=B.out.at 0 _ rfl
   have O:=B.out.at 1 _ rfl
   have m2:=B.out.at 2 _ rfl
   have N:=B.out.at 3 _ rfl
   have M:=B.out.at 4 _ rfl
   clear C
   go_wp2_with fail
   go_ret
   exact ⟨by first|rfl|simp,G.out⟩
 by_cases d:281474976710656<now
 · obtain rfl:r=2:=by rw [HR.out];exact zhf (Or.inr (Or.inl d))
   go_enter Tryz.func92,Tryz.ntmps92
   go_wp2_with fail
   refine (k1.out _ F.out).mono ?_
   rintro e w1 ⟨rfl,C⟩
   have G:=Z9 (F.out.later C)
   have D:=Z9 (J.out.later C)
   have B:=Z9 (K.out.later C)
   have g1:=D.out.at 2 _ rfl
   have P:=B.out.at 0 _ rfl
   have O:=B.out.at 1 _ rfl
   have m2:=B.out.at 2 _ rfl
   have N:=B.out.at 3 _ rfl
   have M:=B.out.at 4 _ rfl
   clear C
   go_wp2_with fail
   go_ret
   exact ⟨by first|rfl|simp,G.out⟩
 have c:now≤281474976710656:=by omega
 cases fm
 · obtain rfl:r=2:=by rw [HR.out];exact zhf (Or.inr (Or.inr rfl))
   go_enter Tryz.func92,Tryz.ntmps92
   go_wp2_with fail
   refine (k1.out _ F.out).mono ?_
   rintro e w1 ⟨rfl,C⟩
   have G:=Z9 (F.out.later C)
   have D:=Z9 (J.out.later C)
   have B:=Z9 (K.out.later C)
   have g1:=D.out.at 2 _ rfl
   have P:=B.out.at 0 _ rfl
   have O:=B.out.at 1 _ rfl
   have m2:=B.out.at 2 _ rfl
   have N:=B.out.at 3 _ rfl
   have M:=B.out.at 4 _ rfl
   clear C
   go_wp2_with fail
   refine (T.out _).mono ?_
   rintro e w2 ⟨rfl,E⟩
   have I:=Z9 (G.out.later E)
   have q1:=(D.out.later E).at 2 _ rfl
   clear E
   go_wp2_with fail
   go_ret
   exact ⟨by first|rfl|simp,I.out⟩
 have L:r=if now<nw then 9 else 0:=by rw [HR.out];exact zti b.out.symm c rfl
 by_cases hlt:now<nw
 · rw [if_pos hlt] at L
   subst L
   go_enter Tryz.func92,Tryz.ntmps92
   go_wp2_with fail
   refine (k1.out _ F.out).mono ?_
   rintro e w1 ⟨rfl,C⟩
   have G:=Z9 (F.out.later C)
   have D:=Z9 (J.out.later C)
   have B:=Z9 (K.out.later C)
   have g1:=D.out.at 2 _ rfl
   have P:=B.out.at 0 _ rfl
   have O:=B.out.at 1 _ rfl
   have m2:=B.out.at 2 _ rfl
   have N:=B.out.at 3 _ rfl
   have M:=B.out.at 4 _ rfl
   clear C
   go_wp2_with fail
   refine (T.out _).mono ?_
   rintro e w2 ⟨rfl,E⟩
   have I:=Z9 (G.out.later E)
   have q1:=(D.out.later E).at 2 _ rfl
   clear E
   go_wp2_with fail
   go_ret
   exact ⟨by first|rfl|simp,I.out⟩
 · rw [if_neg hlt] at L
   subst L
   have f:nw≤now:=by omega
   go_enter Tryz.func92,Tryz.ntmps92
   go_wp2_with fail
   refine (k1.out _ F.out).mono ?_
   rintro e w1 ⟨rfl,C⟩
   have G:=Z9 (F.out.later C)
   have D:=Z9 (J.out.later C)
   have B:=Z9 (K.out.later C)
   have g1:=D.out.at 2 _ rfl
   have P:=B.out.at 0 _ rfl
   have O:=B.out.at 1 _ rfl
   have m2:=B.out.at 2 _ rfl
   have N:=B.out.at 3 _ rfl
   have M:=B.out.at 4 _ rfl
   clear C
   go_wp2_with fail
   refine (T.out _).mono ?_
   rintro e w2 ⟨rfl,E⟩
   have I:=Z9 (G.out.later E)
   have q1:=(D.out.later E).at 2 _ rfl
   clear E
   go_wp2_with fail
   go_ret
   exact ⟨by first|rfl|simp,I.out⟩
end
section
open Go.RowKit
def JL (s:Jb.Jt) (A:Option Addr) (n c:Nat):List Value:=[.int .i64 s.least, .int .i64 s.most, .int .i64 s.now, .bool s.on, .int .i64 s.zero, .int .i64 s.first, .int .i64 s.high, .int .i64 s.done, .int .i64 s.spread, .int .i64 s.trans, .slice A n c, .int .i64 s.late, .int .i64 s.twice, .int .i64 s.played]
def NoU8 (cs:List Value):Prop:=∀ v∈cs,∀ z,v ≠ .int .u8 z
def ML (m:Jb.Md) (A:Option Addr) (n c:Nat):List Value:=[.int .i64 m.sq, .int .i64 m.ti, .bool m.mrk, .int .u8 m.ty, .slice A n c]
theorem zar:(Tryz.prog.info? 37).map (·.size)=some 14:=by kernel_rfl
theorem zhg:(Tryz.prog.info? 183).map (·.size)=some 5:=by kernel_rfl
def tailT (s:Jb.Jt) (m:Jb.Md) (now:Int):Jb.Jt×Int:=if Jb.ptime s m.ti≤now then ({ s with late:=s.late+1 }, 2) else if now+120000<Jb.ptime s m.ti then (s,5) else ({ s with q:=Jb.ins s.q ⟨Jb.ptime s m.ti,m⟩ }, 1)
def fromReg (i:Nat):Code→Option Code
 | .seq (.region j ops d) b=>if i=j then some (.seq (.region j ops d) b) else fromReg i b
 | .seq (.seq (.region j ops d) x) b=>if i=j then some (.seq (.seq (.region j ops d) x) b) else fromReg i b
 | .seq a b=>fromReg i b
 | _=>none
def firstWp (P:Program):Code→(Exit→Act→World→Prop)→Act→World→Prop
 | .seq x y,Q=>firstWp P x (Exit.then (y.wp P Q) Q)
 | c,Q=>c.wp P Q
theorem zas {d:Bool} {y:Code} {Q:Exit→Act→World→Prop} {a:Act} (h:∀ K:Act→World→Prop,(∀ a w,y.wp P Q a w→K a w)→(Code.region i o d).wp P (Exit.then K Q) a w):firstWp P (.seq (.region i o d) y) Q a w:=h _ fun _ _ h=>h
theorem zbd {d:Bool} {x y:Code} {Q:Exit→Act→World→Prop} {a:Act} (h:∀ K:Act→World→Prop,(∀ a w,y.wp P Q a w→K a w)→∀ L:Act→World→Prop,(∀ a w,x.wp P (Exit.then K Q) a w→L a w)→(Code.region i o d).wp P (Exit.then L (Exit.then K Q)) a w):firstWp P (.seq (.seq (.region i o d) x) y) Q a w:=h _ (fun _ _ h=>h) _ fun _ _ h=>h
theorem zao {x y:Code} {Q:Exit→Act→World→Prop} {K:Act→World→Prop} {a:Act} (hk:∀ a w,y.wp P Q a w→K a w) (h:x.wp P (Exit.then (y.wp P Q) Q) a w):x.wp P (Exit.then K Q) a w :=
 Code.wp_mono (fun e a w q=>by cases e<;>first|exact hk _ _ q|exact q) h
theorem zba {x1 B y:Code} {Q:Exit→Act→World→Prop} {C A:Act→World→Prop} {a:Act} (D:∀ a w,B.wp P (Exit.then A Q) a w→C a w) (E:∀ a w,y.wp P Q a w→A a w)
 (h:x1.wp P (Exit.then (B.wp P (Exit.then (y.wp P Q) Q)) (Exit.then (y.wp P Q) Q)) a w):x1.wp P (Exit.then C (Exit.then A Q)) a w :=
 Code.wp_mono (fun e a w q=>by
  cases e<;>first
   | exact D _ _ (Code.wp_mono (fun e a w q=>by cases e<;>first|exact E _ _ q|exact q) q)
   | exact q) h
def AllL:List (Nat×Value)→List Value→Prop
 | [],_=>True
 | (k,v)::L,xs=>xs[k]? = some v∧AllL L xs
def AllS:List (Nat×Value)→(Nat→Value)→Prop
 | [],_=>True
 | (k,v)::L,s=>s k=v∧AllS L s
def Fr (n:Nat) (L:List (Nat×Value)) (a:Act):Prop:=∃ s:Nat→Value,a=⟨((List.range n).map s).toArray,[]⟩∧AllS L s
theorem AllL.s {xs:List Value} : ∀ {L:List (Nat×Value)}, AllL L xs→AllS L fun k=>xs.getD k undef
 | [],_=>trivial
 | (k,v)::L,h=>⟨by show xs.getD k undef=v;rw [List.getD_eq_getElem?_getD,h.1];rfl,AllL.s h.2⟩
theorem Fr.mk {L:List (Nat×Value)} (h:xs.length=n) (A:AllL L xs):Fr n L ⟨xs.toArray,[]⟩:=by
 refine ⟨fun k=>xs.getD k undef,?_,A.s⟩
 congr 2
 apply List.ext_getElem
 · simp [h]
 · intro k h1 h2
   simp [List.getElem?_eq_getElem h1]
def inBlk:Option Code→Option Code
 | some (.block _ c)=>some c
 | _=>none
def findB (i:Nat):Code→Option Code
 | .block j c=>if i=j then some c else findB i c
 | .seq a b => match findB i a with
   | some c=>some c
   | none=>findB i b
 | .cond _ a b => match findB i a with
   | some c=>some c
   | none=>findB i b
 | .loop c=>findB i c
 | .scope c=>findB i c
 | _=>none
theorem zav {P:Program} {c:Code} {Q:Exit→Act→World→Prop} (J:Nat→Act→World→Prop) (round:∀ n a w,J n a w→c.wp P (Exit.then (fun B w' => ∃ m,n=m+1∧J m B w') Q) a w):∀ n a w,J n a w→Code.rounds P c Q (n+1) a w
 | 0,a,w,h=>Code.wp_mono (fun e a w q=>by
  cases e<;>first|exact q|(obtain ⟨m,hm,_⟩:=q;omega)) (round 0 a w h)
 | n+1,a,w,h=>Code.wp_mono (fun e a w q=>by
  cases e<;>first|exact q|(obtain ⟨m,hm,A⟩:=q;obtain rfl:m=n:=(by omega);exact zav J round m a w A)) (round (n+1) a w h)
def findT (i:Nat):Code→Option Code
 | .cond _ (.seq (.region j ops d) b) _=>if i=j then some (.seq (.region j ops d) b) else none
 | .seq a b => match findT i a with
   | some c=>some c
   | none=>findT i b
 | _=>none
theorem zim {d:Bool} {y:Code} {Q:Exit→Act→World→Prop} {a:Act} (h:firstWp P (.seq (.region i o d) y) Q a w):(Code.seq (.region i o d) y).wp P Q a w:=by
 first|exact Code.wp_seq h|exact wp_seq h
end
section
attribute [local go_sem ↓] zab zac
attribute [local go_sem] zaa zad
open Go.RowKit
structure RZ (w W:World) (lo B:Nat) (s:Jb.Jt) (now:Int) (A1:Option Addr) (l1:List TW) (A2:Option Addr) (c2:Nat) (l2:List TW):Prop where
 bs:Blk W w.heap.size 37 (JL s A2 l2.length c2).toArray
 bn:Blk W (w.heap.size+1) 3 #[.int .i64 now]
 br:Blk W (w.heap.size+1+1) 37 (JL Jb.Jt.none none 0 0).toArray
 u:Bel w W
 p1:WtsIn W lo B A1 l1
 q2:QOwn W B A2 l2.length c2 l2
 lo1:w.heap.size+1+1<lo
 lo2:lo≤B
 hB:B≤W.heap.size
section
variable {w W W':World} {lo B c2:Nat} {s s':Jb.Jt} {now:Int} {A1 A2:Option Addr} {l1 l2:List TW}
theorem RZ.put (h:RZ w W lo B s now A1 l1 A2 c2 l2) (i:Nat) (v:Value) (s':Jb.Jt) (A:(JL s A2 l2.length c2).set i v=JL s' A2 l2.length c2:=by rfl):RZ w (W.setCell ⟨w.heap.size,i,none⟩ v) lo B s' now A1 l1 A2 c2 l2:=by
 have h1:=h.lo1
 have h2:=h.lo2
 refine ⟨?_,h.bn.far (by simp) _,h.br.far (by simp;omega) _,zah h.u (Nat.le_refl _) _,h.p1.setCell (by simp;omega) _,h.q2.setCell (by simp;omega) _,h.lo1,h.lo2,by simpa [World.setCell] using h.hB⟩
 have:=h.bs.set_ i v
 rw [← A]
 simpa using this
theorem RZ.later (h:RZ w W lo B s now A1 l1 A2 c2 l2) (hb:Below W.heap.size W W'):RZ w W' lo B s now A1 l1 A2 c2 l2 :=
 ⟨h.bs.later hb,h.bn.later hb,h.br.later hb,h.u.later hb,h.p1.below hb h.hB,h.q2.below hb,h.lo1,h.lo2,Nat.le_trans h.hB hb.size⟩
end
def RunZ (T:Jb.Jt) (A1:Option Addr) (c1:Nat) (l1:List TW) (A2:Option Addr) (c2:Nat) (l2:List TW) (lo B:Nat) (w:World) (e:Ending) (w':World):Prop :=
 e = .returned (.tuple #[.agg (JL T A2 l2.length c2).toArray, .slice A1 l1.length c1])∧WtsIn w' lo B A1 l1∧QOwn w' B A2 l2.length c2 l2∧B≤w'.heap.size∧Below w.heap.size w w'
theorem QOwn.onlyZ (h:QOwn W B A n c l) (ho:OnlyB g W W') (hg:g<B):QOwn W' B A n c l :=
 ⟨h.len,ho.owns h.own hg,fun a C h0=>by
  obtain ⟨b,off,e,hlt,hc⟩:=h.pay a C h0
  have:=h.new a C h0 b off e
  exact ⟨b,off,e,by rw [ho.2];exact hlt,fun i hi=>(ho.cell (show b≠g by omega)).trans (hc i hi)⟩,h.far,h.new,h.cap⟩
noncomputable def rn4_code:Code:=((Tryz.f93.body.bind (fromReg 4)).getD .skip)
noncomputable def rn6_code:Code:=((Tryz.f93.body.bind (fromReg 6)).getD .skip)
theorem zgl {s:Jb.Jt} {c1:Nat} {c2:Nat} {R:Ending→World→Prop} (O:l1.length=p) (S:RZ w W lo B s now A1 l1 A2 c2 l2) (Az:l1.length≤200) (o : -9223372036854775808≤s.played) (t:s.played≤9223372036854775000) (K:∀ e w',RunZ ({ s with played:=s.played+l1.length,done:=Jb.maxSq s.done (l1.map TW.w),now:=now } : Jb.Jt) A1 c1 l1 A2 c2 l2 lo B w e w'→R e w') (a:Act) (D:Fr 54 [(2, .pointer (some ⟨w.heap.size,0,none⟩)),(3, .pointer (some ⟨w.heap.size+1,0,none⟩)),(4, .pointer (some ⟨w.heap.size+1+1,0,none⟩)),(6, .int .i64 p),(7, .slice A1 p c1)] a):firstWp Tryz.prog rn6_code (bodyPost Tryz.prog Tryz.f93 R) a W:=by
 subst O
 obtain ⟨l,rfl,G,F,E,M,L,_⟩:=D
 simp only [rl9];rw [G,F,E,M,L]
 clear G F E M L
 have HR:=Z9 K
 clear K
 refine zas ?_
 intro _ _
 have Z:=S.bs.at 13 (.int .i64 s.played) rfl
 have b:=S.bs.frozen
 have d : -9223372036854775808≤s.played+(l1.length:Int)∧s.played+(l1.length:Int)≤9223372036854775807:=by omega
 obtain ⟨z,y⟩:=d
 go_upto_region 7 with fail
 have J:=S.put 13 (.int .i64 (s.played+l1.length)) { s with played:=s.played+l1.length }
 generalize W.setCell _ _=W2 at J ⊢
 clear Z b S
 have HS:=Z9 J
 clear J
 go_wp2_with fail
 go_loopg [38] l1.length (fun gk i wr => ∃ k:Nat,gk+k=l1.length∧i = .int .i64 k∧Hid (RZ w wr lo B ({ s with played:=s.played+l1.length,done:=Jb.maxSq s.done ((l1.map TW.w).take k) } : Jb.Jt) now A1 l1 A2 c2 l2))
 case atStart=>exact ⟨0,rfl,rfl,HS⟩
 case round =>
  obtain ⟨k,x,rfl,C⟩:=hrel
  have Ct:(0:Int)≤(k:Int):=by omega
  have c:=C.out.bs.lt
  have T:=C.out.bs.frozen
  by_cases hk:k<l1.length
  · have f:(k:Int)<(l1.length:Int):=by omega
    obtain ⟨a,D⟩:∃ a,l1[k]? = some a:=⟨_,List.getElem?_eq_getElem (by omega)⟩
    obtain ⟨Y,j,rfl,g,X,V,G,F,E,U⟩:=zes C.out.p1.rows.1 D
    have hm:Jb.maxSq s.done ((l1.map TW.w).take (k+1))=max (Jb.maxSq s.done ((l1.map TW.w).take k)) a.w.m.sq:=by
     rw [List.take_add_one,List.getElem?_map,D]
     exact znc _ _ _
    have N:=Z9 hm
    obtain ⟨⟨at0,⟨sq0,ti0,Cm,ty0,pl0⟩⟩,B0,c0⟩:=a
    simp only at X V G F E U N
    have Q:Y<wr.heap.size:=Nat.lt_of_lt_of_le g C.out.hB
    have n:=C.out.bs.at 7 (.int .i64 (Jb.maxSq s.done ((l1.map TW.w).take k))) rfl
    clear D hm
    go_wp2_with fail
    go_roundg (gk-1)
    case measure=>omega
    case rel =>
     refine ⟨k+1,by omega,by go_num,Z9 ?_⟩
     rw [N.out]
     exact (C.out.put 7 (.int .i64 (max (Jb.maxSq s.done ((l1.map TW.w).take k)) sq0)) { s with played:=s.played+l1.length,done:=max (Jb.maxSq s.done ((l1.map TW.w).take k)) sq0 }).later ((Below.refl _ _).alloc (Nat.le_refl _) _)
  obtain rfl:k=l1.length:=by omega
  have f:(l1.length:Int)≤(l1.length:Int):=Int.le_refl _
  have H:=C.out
  rw [List.take_of_length_le (by simp)] at H
  have n0:=H.bn.at 0 (.int .i64 now) rfl
  have b2:=H.bs.at 2 (.int .i64 s.now) rfl
  clear C
  go_upto_region 13 with fail
  clear n0 b2 c
  have A:=H.put 2 (.int .i64 now) ({ s with played:=s.played+l1.length,done:=Jb.maxSq s.done (l1.map TW.w),now:=now } : Jb.Jt)
  generalize wr.setCell _ _=W5 at A ⊢
  go_wp2_with (first|(refine zaf rfl 37 (.tmp 2) rfl (w.heap.size) 0 rfl 37 (JL ({ s with played:=s.played+l1.length,done:=Jb.maxSq s.done (l1.map TW.w),now:=now } : Jb.Jt) A2 l2.length c2) A.bs 14 _ Tryz.underlying37 zar (show 0+14≤14 by decide) (JL ({ s with played:=s.played+l1.length,done:=Jb.maxSq s.done (l1.map TW.w),now:=now } : Jb.Jt) A2 l2.length c2).toArray (by rfl) rfl ?_)|(refine zag rfl 37 (.tmp 4) (.tmp 52) rfl (w.heap.size+1+1) 0 rfl 37 (JL Jb.Jt.none none 0 0) A.br (JL ({ s with played:=s.played+l1.length,done:=Jb.maxSq s.done (l1.map TW.w),now:=now } : Jb.Jt) A2 l2.length c2) rfl zar (show 0+14≤14 by decide) rfl (JL ({ s with played:=s.played+l1.length,done:=Jb.maxSq s.done (l1.map TW.w),now:=now } : Jb.Jt) A2 l2.length c2) rfl ?_;intro WB h I)|fail)
  have h1:=A.lo1
  have h2:=A.lo2
  exact bodyPost_ret (v := .tuple #[.agg (JL ({ s with played:=s.played+l1.length,done:=Jb.maxSq s.done (l1.map TW.w),now:=now } : Jb.Jt) A2 l2.length c2).toArray, .slice A1 l1.length c1]) (zem Tryz.results93 rfl (run_loadVar_row (P:=Tryz.prog) _ _ _ _ _ _ _ h Tryz.underlying37 rfl (by kernel_rfl)) rfl) rfl (HR.out _ _ ⟨rfl,A.p1.keep fun p g1 g2=>I.cell (by omega),A.q2.onlyZ I (by omega),by rw [I.2];exact A.hB,I.bel A.u (by omega)⟩)
structure RB0 (w W:World) (s:Jb.Jt) (now:Int) (A:Option Addr) (n c:Nat):Prop where
 bs:Blk W w.heap.size 37 (JL s A n c).toArray
 bn:Blk W (w.heap.size+1) 3 #[.int .i64 now]
 br:Blk W (w.heap.size+1+1) 37 (JL Jb.Jt.none none 0 0).toArray
 u:Bel w W
theorem RB0.later {s:Jb.Jt} (h:RB0 w W s now A n c) (hb:Below W.heap.size W W'):RB0 w W' s now A n c:=⟨h.bs.later hb,h.bn.later hb,h.br.later hb,h.u.later hb⟩
theorem RB0.b10 {s:Jb.Jt} (h:RB0 w W s now A n c):W.cell? ⟨w.heap.size,10,none⟩=some (.slice A n c):=h.bs.at 10 _ rfl
theorem RB0.queue {s:Jb.Jt} {c2:Nat} {m:Nat} (h:RB0 w W s now A n c) (p1:WtsIn W lo B A1 l1) (q2:QOwn W B A2 m c2 l2) (h0:w.heap.size+1+1<lo) (h1:lo≤B) (h2:B≤W.heap.size):RZ w (W.setCell ⟨w.heap.size,10,none⟩ (.slice A2 m c2)) lo B s now A1 l1 A2 c2 l2:=by
 obtain rfl:=q2.len
 refine ⟨?_,h.bn.far (by simp) _,h.br.far (by simp;omega) _,zah h.u (Nat.le_refl _) _,p1.setCell (by simp;omega) _,q2.setCell (by simp;omega) _,h0,h1,by simpa [World.setCell] using h2⟩
 have:=h.bs.set_ 10 (.slice A2 l2.length c2)
 simpa [JL] using this
theorem zug {s:Jb.Jt} {R:Ending→World→Prop} (S:RB0 w W s now A n c) (i:Wts W W.heap.size A l) (hn:l.length=n) (hl:n≤200) (Av:n≤c) (z:c≤maxLen) (f:∀ a∈l,a.w.m.pl.length≤1000000) (hp:p≤n) (v : -9223372036854775808≤s.played) (x:s.played≤9223372036854775000) (g:∀ (A1:Option Addr) (c1:Nat) (l1:List TW) (A2:Option Addr) (c2:Nat) (l2:List TW) (lo B:Nat) (e:Ending) (w':World),l1.map TW.w=(l.take p).map TW.w→l2.map TW.w=(l.drop p).map TW.w→l1.length≤c1∧c1≤maxLen→W.heap.size≤lo→lo≤B→RunZ ({ s with played:=s.played+l1.length,done:=Jb.maxSq s.done (l1.map TW.w),now:=now } : Jb.Jt) A1 c1 l1 A2 c2 l2 lo B w e w'→R e w') (a:Act) (X:Fr 54 [(2, .pointer (some ⟨w.heap.size,0,none⟩)),(3, .pointer (some ⟨w.heap.size+1,0,none⟩)),(4, .pointer (some ⟨w.heap.size+1+1,0,none⟩)),(6, .int .i64 p)] a):firstWp Tryz.prog rn4_code (bodyPost Tryz.prog Tryz.f93 R) a W:=by
 obtain ⟨Q,rfl,u,t,o,j,_⟩:=X
 simp only [rl9];rw [u,t,o,j]
 clear u t o j
 unfold maxLen at z
 have P:=Z9 fun (d:Option Addr) (c9 m:Nat) (V:World) (hm:(l.take p).length=m) (h:Wts V V.heap.size d (l.take p))=>zfp d (l.take p) m c9 V V.heap.size (Nat.le_refl _) hm (by simp at hm;omega) h (fun a X=>f a (List.mem_of_mem_take X)) _ rfl
 have O:=Z9 fun (d:Option Addr) (c9 m:Nat) (V:World) (hm:(l.drop p).length=m) (h:Wts V V.heap.size d (l.drop p))=>zfp d (l.drop p) m c9 V V.heap.size (Nat.le_refl _) hm (by simp at hm;omega) h (fun a X=>f a (List.mem_of_mem_drop X)) _ rfl
 have HR:=Z9 g
 have T:=Z9 (And.intro v x)
 clear g f v x
 have h1:(0:Int)≤(p:Int):=by omega
 have h2:(p:Int)≤(n:Int):=by omega
 have h3:(p:Int)≤(c:Int):=by omega
 have h5:(n:Int)≤(c:Int):=by omega
 refine zas ?_
 intro _ _
 have b10:=S.bs.at 10 (.slice A n c) rfl
 have N:=Z9 i
 clear i
 rcases A with _|⟨b,off,sb⟩
 · obtain rfl:l=[]:=by
    rcases N.out.form with e|⟨b,off,e⟩
    · exact e
    · cases e
   obtain rfl:n=0:=hn.symm
   obtain rfl:p=0:=by omega
   clear h1 h2 h3 h5
   go_wp2_with fail
   refine (P.out _ _ _ _ ?_ ?_).mono ?_
   · (first|rfl|(simp;try omega))
   · (first|exact N.out.take _|exact Wts.empty)
   rintro e w2 ⟨A1,c1,l1,rfl,L,I,E⟩
   have F:=S.later E
   have U:=Z9 (N.out.later E)
   have H:=S.br.lt
   clear b10
   have b10:=F.b10
   go_wp2_with fail
   refine (O.out _ _ _ _ ?_ ?_).mono ?_
   · (first|rfl|(simp;try omega))
   · (first|exact U.out.dropAt _|(simp;exact Wts.empty)|exact Wts.empty|(rw [List.drop_of_length_le (by omega)];exact Wts.empty))
   rintro e w3 ⟨A2,c2,l2,rfl,M,K,D⟩
   have C:=F.later D
   have G:=E.size
   have J:=C.queue (I.wtsIn.below D (Nat.le_refl _)) K H G D.size
   have HC:=Z9 (And.intro (And.intro L M) (And.intro I (And.intro G H)))
   clear b10
   have b10:=C.b10
   have Z:=C.bs.frozen
   clear L M I K E D P O F C S H G
   go_upto_region 6 with fail
   generalize w3.setCell _ _=Y at J ⊢
   refine zao (by assumption) ?_
   exact zgl HC.out.2.1.len J (by have:=HC.out.2.1.len;omega) T.out.1 T.out.2 (fun e w' h=>HR.out _ _ _ _ _ _ _ _ _ _ HC.out.1.1 HC.out.1.2 ⟨by rw [HC.out.2.1.len];exact HC.out.2.1.own.cap,Owns.capm HC.out.2.1.own⟩ (Nat.le_refl _) HC.out.2.2.1 h) _ (Fr.mk rfl ⟨rfl,rfl,rfl,rfl,rfl,trivial⟩)
 by_cases y:n=0
 · obtain rfl:l=[]:=List.eq_nil_of_length_eq_zero (by omega)
   subst y
   obtain rfl:p=0:=by omega
   clear h1 h2 h3 h5
   have Rz:(0:Int)≤(c:Int):=by omega
   by_cases hc:c=0
   · subst hc
     go_wp2_with fail
     refine (P.out _ _ _ _ ?_ ?_).mono ?_
     · (first|rfl|(simp;try omega))
     · (first|exact N.out.take _|exact Wts.empty)
     rintro e w2 ⟨A1,c1,l1,rfl,L,I,E⟩
     have F:=S.later E
     have U:=Z9 (N.out.later E)
     have H:=S.br.lt
     clear b10
     have b10:=F.b10
     go_wp2_with fail
     refine (O.out _ _ _ _ ?_ ?_).mono ?_
     · (first|rfl|(simp;try omega))
     · (first|exact U.out.dropAt _|(simp;exact Wts.empty)|exact Wts.empty|(rw [List.drop_of_length_le (by omega)];exact Wts.empty))
     rintro e w3 ⟨A2,c2,l2,rfl,M,K,D⟩
     have C:=F.later D
     have G:=E.size
     have J:=C.queue (I.wtsIn.below D (Nat.le_refl _)) K H G D.size
     have HC:=Z9 (And.intro (And.intro L M) (And.intro I (And.intro G H)))
     clear b10
     have b10:=C.b10
     have Z:=C.bs.frozen
     clear L M I K E D P O F C S H G
     go_upto_region 6 with fail
     generalize w3.setCell _ _=Y at J ⊢
     refine zao (by assumption) ?_
     exact zgl HC.out.2.1.len J (by have:=HC.out.2.1.len;omega) T.out.1 T.out.2 (fun e w' h=>HR.out _ _ _ _ _ _ _ _ _ _ HC.out.1.1 HC.out.1.2 ⟨by rw [HC.out.2.1.len];exact HC.out.2.1.own.cap,Owns.capm HC.out.2.1.own⟩ (Nat.le_refl _) HC.out.2.2.1 h) _ (Fr.mk rfl ⟨rfl,rfl,rfl,rfl,rfl,trivial⟩)
   · go_wp2_with fail
     refine (P.out _ _ _ _ ?_ ?_).mono ?_
     · (first|rfl|(simp;try omega))
     · (first|exact N.out.take _|exact Wts.empty)
     rintro e w2 ⟨A1,c1,l1,rfl,L,I,E⟩
     have F:=S.later E
     have U:=Z9 (N.out.later E)
     have H:=S.br.lt
     clear b10
     have b10:=F.b10
     go_wp2_with fail
     refine (O.out _ _ _ _ ?_ ?_).mono ?_
     · (first|rfl|(simp;try omega))
     · (first|exact U.out.dropAt _|(simp;exact Wts.empty)|exact Wts.empty|(rw [List.drop_of_length_le (by omega)];exact Wts.empty))
     rintro e w3 ⟨A2,c2,l2,rfl,M,K,D⟩
     have C:=F.later D
     have G:=E.size
     have J:=C.queue (I.wtsIn.below D (Nat.le_refl _)) K H G D.size
     have HC:=Z9 (And.intro (And.intro L M) (And.intro I (And.intro G H)))
     clear b10
     have b10:=C.b10
     have Z:=C.bs.frozen
     clear L M I K E D P O F C S H G
     go_upto_region 6 with fail
     generalize w3.setCell _ _=Y at J ⊢
     refine zao (by assumption) ?_
     exact zgl HC.out.2.1.len J (by have:=HC.out.2.1.len;omega) T.out.1 T.out.2 (fun e w' h=>HR.out _ _ _ _ _ _ _ _ _ _ HC.out.1.1 HC.out.1.2 ⟨by rw [HC.out.2.1.len];exact HC.out.2.1.own.cap,Owns.capm HC.out.2.1.own⟩ (Nat.le_refl _) HC.out.2.2.1 h) _ (Fr.mk rfl ⟨rfl,rfl,rfl,rfl,rfl,trivial⟩)
 obtain rfl:sb=none:=by
  rcases N.out.form with e|⟨b',Bx,e⟩
  · rw [e] at hn;simp at hn;omega
  · injection e with e;injection e
 by_cases hz:p=n
 · subst hz
   clear h2 h3
   by_cases hc:c=p
   · subst hc
     go_wp2_with fail
     refine (P.out _ _ _ _ ?_ ?_).mono ?_
     · (first|rfl|(simp;try omega))
     · (first|exact N.out.take _|exact Wts.empty)
     rintro e w2 ⟨A1,c1,l1,rfl,L,I,E⟩
     have F:=S.later E
     have U:=Z9 (N.out.later E)
     have H:=S.br.lt
     clear b10
     have b10:=F.b10
     go_wp2_with fail
     refine (O.out _ _ _ _ ?_ ?_).mono ?_
     · (first|rfl|(simp;try omega))
     · (first|exact U.out.dropAt _|(simp;exact Wts.empty)|exact Wts.empty|(rw [List.drop_of_length_le (by omega)];exact Wts.empty))
     rintro e w3 ⟨A2,c2,l2,rfl,M,K,D⟩
     have C:=F.later D
     have G:=E.size
     have J:=C.queue (I.wtsIn.below D (Nat.le_refl _)) K H G D.size
     have HC:=Z9 (And.intro (And.intro L M) (And.intro I (And.intro G H)))
     clear b10
     have b10:=C.b10
     have Z:=C.bs.frozen
     clear L M I K E D P O F C S H G
     go_upto_region 6 with fail
     generalize w3.setCell _ _=Y at J ⊢
     refine zao (by assumption) ?_
     exact zgl HC.out.2.1.len J (by have:=HC.out.2.1.len;omega) T.out.1 T.out.2 (fun e w' h=>HR.out _ _ _ _ _ _ _ _ _ _ HC.out.1.1 HC.out.1.2 ⟨by rw [HC.out.2.1.len];exact HC.out.2.1.own.cap,Owns.capm HC.out.2.1.own⟩ (Nat.le_refl _) HC.out.2.2.1 h) _ (Fr.mk rfl ⟨rfl,rfl,rfl,rfl,rfl,trivial⟩)
   · go_wp2_with fail
     refine (P.out _ _ _ _ ?_ ?_).mono ?_
     · (first|rfl|(simp;try omega))
     · (first|exact N.out.take _|exact Wts.empty)
     rintro e w2 ⟨A1,c1,l1,rfl,L,I,E⟩
     have F:=S.later E
     have U:=Z9 (N.out.later E)
     have H:=S.br.lt
     clear b10
     have b10:=F.b10
     go_wp2_with fail
     refine (O.out _ _ _ _ ?_ ?_).mono ?_
     · (first|rfl|(simp;try omega))
     · (first|exact U.out.dropAt _|(simp;exact Wts.empty)|exact Wts.empty|(rw [List.drop_of_length_le (by omega)];exact Wts.empty))
     rintro e w3 ⟨A2,c2,l2,rfl,M,K,D⟩
     have C:=F.later D
     have G:=E.size
     have J:=C.queue (I.wtsIn.below D (Nat.le_refl _)) K H G D.size
     have HC:=Z9 (And.intro (And.intro L M) (And.intro I (And.intro G H)))
     clear b10
     have b10:=C.b10
     have Z:=C.bs.frozen
     clear L M I K E D P O F C S H G
     go_upto_region 6 with fail
     generalize w3.setCell _ _=Y at J ⊢
     refine zao (by assumption) ?_
     exact zgl HC.out.2.1.len J (by have:=HC.out.2.1.len;omega) T.out.1 T.out.2 (fun e w' h=>HR.out _ _ _ _ _ _ _ _ _ _ HC.out.1.1 HC.out.1.2 ⟨by rw [HC.out.2.1.len];exact HC.out.2.1.own.cap,Owns.capm HC.out.2.1.own⟩ (Nat.le_refl _) HC.out.2.2.1 h) _ (Fr.mk rfl ⟨rfl,rfl,rfl,rfl,rfl,trivial⟩)
 have h4:¬c=p:=by omega
 go_wp2_with fail
 refine (P.out _ _ _ _ ?_ ?_).mono ?_
 · (first|rfl|(simp;try omega))
 · (first|exact N.out.take _|exact Wts.empty)
 rintro e w2 ⟨A1,c1,l1,rfl,L,I,E⟩
 have F:=S.later E
 have U:=Z9 (N.out.later E)
 have H:=S.br.lt
 clear b10
 have b10:=F.b10
 go_wp2_with fail
 refine (O.out _ _ _ _ ?_ ?_).mono ?_
 · (first|rfl|(simp;try omega))
 · (first|exact U.out.dropAt _|(simp;exact Wts.empty)|exact Wts.empty|(rw [List.drop_of_length_le (by omega)];exact Wts.empty))
 rintro e w3 ⟨A2,c2,l2,rfl,M,K,D⟩
 have C:=F.later D
 have G:=E.size
 have J:=C.queue (I.wtsIn.below D (Nat.le_refl _)) K H G D.size
 have HC:=Z9 (And.intro (And.intro L M) (And.intro I (And.intro G H)))
 clear b10
 have b10:=C.b10
 have Z:=C.bs.frozen
 clear L M I K E D P O F C S H G
 go_upto_region 6 with fail
 generalize w3.setCell _ _=Y at J ⊢
 refine zao (by assumption) ?_
 exact zgl HC.out.2.1.len J (by have:=HC.out.2.1.len;omega) T.out.1 T.out.2 (fun e w' h=>HR.out _ _ _ _ _ _ _ _ _ _ HC.out.1.1 HC.out.1.2 ⟨by rw [HC.out.2.1.len];exact HC.out.2.1.own.cap,Owns.capm HC.out.2.1.own⟩ (Nat.le_refl _) HC.out.2.2.1 h) _ (Fr.mk rfl ⟨rfl,rfl,rfl,rfl,rfl,trivial⟩)
theorem zqa (now:Int) (q:List Jb.Wt):(Jb.due now q).length≤q.length:=(List.takeWhile_sublist _).length_le
theorem zqb (le C nw:Int) (on:Bool) (ze fi hi dn sp tr:Int) (A:Option Addr) (l:List TW) (n qc:Nat) (la tw pd:Int) (now:Int) (w:World) (hn:l.length=n) (hl:n≤200) (N:n≤qc) (M:qc≤maxLen) (B:Nat) (hB:B≤w.heap.size) (E:Wts w B A l) (hp:∀ a∈l,a.w.m.pl.length≤1000000) (P : -9223372036854775808≤pd∧pd≤9223372036854775000):Calls Tryz.prog 93 #[.agg #[.int .i64 le, .int .i64 C, .int .i64 nw, .bool on, .int .i64 ze, .int .i64 fi, .int .i64 hi, .int .i64 dn, .int .i64 sp, .int .i64 tr, .slice A n qc, .int .i64 la, .int .i64 tw, .int .i64 pd], .int .i64 now] w (RunR le C on ze fi hi dn sp tr (l.map TW.w) la tw pd now w):=by
 replace E:=E.more hB
 subst hn
 have S:RB0 w (((w.alloc (.cells #[.int .i64 le, .int .i64 C, .int .i64 nw, .bool on, .int .i64 ze, .int .i64 fi, .int .i64 hi, .int .i64 dn, .int .i64 sp, .int .i64 tr, .slice A l.length qc, .int .i64 la, .int .i64 tw, .int .i64 pd] 37)).alloc (.cells #[.int .i64 now] 3)).alloc (.cells (JL Jb.Jt.none none 0 0).toArray 37)) (⟨le,C,nw,on,ze,fi,hi,dn,sp,tr,l.map TW.w,la,tw,pd⟩:Jb.Jt) now A l.length qc:=⟨((Blk.new w _ _).push _).push _,(Blk.new1 _ _ _ _).push _,Blk.new2 _ _ _ _ _,(((Bel.refl w).push _).push _).push _⟩
 have G:=zqa now (l.map TW.w)
 rw [List.length_map] at G
 obtain ⟨d,hd⟩:=nm9 ((Jb.due now (l.map TW.w)).length)
 rw [← hd] at G
 obtain ⟨q1,q2⟩:=ztr now (l.map TW.w)
 rw [← hd,← List.map_take] at q1
 rw [← hd,← List.map_drop] at q2
 obtain ⟨R,F⟩:∃ R:Ending→World→Prop,R=RunR le C on ze fi hi dn sp tr (l.map TW.w) la tw pd now w:=⟨_,rfl⟩
 rw [← F]
 have I:∀ (W:World),w.heap.size≤W.heap.size→∀ (A1:Option Addr) (c1:Nat) (l1:List TW) (A2:Option Addr) (c2:Nat) (l2:List TW) (lo B:Nat) (e:Ending) (w':World),l1.map TW.w=(l.take d).map TW.w→l2.map TW.w=(l.drop d).map TW.w→l1.length≤c1∧c1≤maxLen→W.heap.size≤lo→lo≤B→RunZ ({ (⟨le,C,nw,on,ze,fi,hi,dn,sp,tr,l.map TW.w,la,tw,pd⟩:Jb.Jt) with played:=(⟨le,C,nw,on,ze,fi,hi,dn,sp,tr,l.map TW.w,la,tw,pd⟩:Jb.Jt).played+l1.length,done:=Jb.maxSq (⟨le,C,nw,on,ze,fi,hi,dn,sp,tr,l.map TW.w,la,tw,pd⟩:Jb.Jt).done (l1.map TW.w),now:=now } : Jb.Jt) A1 c1 l1 A2 c2 l2 lo B w e w'→R e w':=fun W D A1 c1 l1 A2 c2 l2 lo B e w' h1 h2 hc h3 h4 hz=>by
  rw [F]
  exact ⟨A1,c1,l1,A2,c2,l2,B,by rw [hz.1,q1,← h1,List.length_map];rfl,h1.trans q1.symm,h2.trans q2.symm,hz.2.1.less (by omega),hz.2.2.1,by omega,hz.2.2.2.1,hc,hz.2.2.2.2⟩
 have k1:=Z9 fun (W:World) (D:RB0 w W (⟨le,C,nw,on,ze,fi,hi,dn,sp,tr,l.map TW.w,la,tw,pd⟩:Jb.Jt) now A l.length qc)=>zoh A l l.length qc (w.heap.size+1) now W rfl (by omega) ((E.below D.u).more D.u.size) (D.bn.at 0 _ rfl) D.bn.lt
 have U:=Z9 E
 have HR:=Z9 I
 have T:=Z9 hd
 have L:=Z9 hp
 obtain ⟨K,J⟩:=P
 clear E I F hd q1 q2 hp
 go_enter Tryz.func93,Tryz.ntmps93
 go_upto_region 1 with fail
 change Code.wp _ _ _ _ (((w.alloc (.cells #[.int .i64 le, .int .i64 C, .int .i64 nw, .bool on, .int .i64 ze, .int .i64 fi, .int .i64 hi, .int .i64 dn, .int .i64 sp, .int .i64 tr, .slice A l.length qc, .int .i64 la, .int .i64 tw, .int .i64 pd] 37)).alloc (.cells #[.int .i64 now] 3)).alloc (.cells (JL Jb.Jt.none none 0 0).toArray 37))
 generalize ((w.alloc _).alloc _).alloc _=W0 at S ⊢
 have b10:=S.b10
 go_wp2_with fail
 refine (k1.out _ S).mono ?_
 rintro e w1 ⟨rfl,O⟩
 replace S:=S.later O
 clear O k1 b10
 have b10:=S.b10
 have H:=Z9 ((U.out.below S.u).more S.u.size)
 unfold firstLate
 rw [← T.out,List.length_map]
 by_cases hf:d=l.length
 · rw [if_pos hf]
   subst hf
   go_upto_region 4 with fail
   refine zao (by assumption) ?_
   exact zug (p:=l.length) S H.out rfl hl N M L.out (Nat.le_refl _) K J (HR.out _ S.u.size) _ (Fr.mk rfl ⟨rfl,rfl,rfl,rfl,trivial⟩)
 · rw [if_neg hf]
   have V:¬((d:Int)<0):=by omega
   go_upto_region 4 with fail
   refine zao (by assumption) ?_
   exact zug (p:=d) S H.out rfl hl N M L.out G K J (HR.out _ S.u.size) _ (Fr.mk rfl ⟨rfl,rfl,rfl,rfl,trivial⟩)
def JV (s:Jb.Jt) (A:Option Addr) (n c:Nat):Value := .agg #[.int .i64 s.least, .int .i64 s.most, .int .i64 s.now, .bool s.on, .int .i64 s.zero, .int .i64 s.first, .int .i64 s.high, .int .i64 s.done, .int .i64 s.spread, .int .i64 s.trans, .slice A n c, .int .i64 s.late, .int .i64 s.twice, .int .i64 s.played]
def JRunR (s:Jb.Jt) (now:Int) (w:World) (e:Ending) (w':World):Prop :=
 ∃ (A1:Option Addr) (c1:Nat) (l1:List TW) (A2:Option Addr) (c2:Nat) (l2:List TW),e = .returned (.tuple #[JV (Jb.run s now).1 A2 l2.length c2, .slice A1 l1.length c1, .int .u8 (Jb.run s now).2.2])∧l1.map TW.w=(Jb.run s now).2.1∧l2.map TW.w=(Jb.run s now).1.q∧Wts w' w'.heap.size A1 l1∧Wts w' w'.heap.size A2 l2∧l2.length≤c2∧c2≤maxLen∧Below w.heap.size w w'∧l1.length≤c1∧c1≤maxLen
def JRunW (s:Jb.Jt) (now:Int) (w:World) (e:Ending) (w':World):Prop :=
 ∃ (A1:Option Addr) (c1:Nat) (l1:List TW) (A2:Option Addr) (c2:Nat) (l2:List TW),e = .returned (.tuple #[JV (Jb.run s now).1 A2 l2.length c2, .slice A1 l1.length c1, .int .u8 (Jb.run s now).2.2])∧l1.map TW.w=(Jb.run s now).2.1∧l2.map TW.w=(Jb.run s now).1.q∧WtsIn w' w.heap.size w'.heap.size A1 l1∧WtsIn w' w.heap.size w'.heap.size A2 l2∧l2.length≤c2∧c2≤maxLen∧Below w.heap.size w w'∧l1.length≤c1∧c1≤maxLen
theorem JRunW.r {s:Jb.Jt} {e:Ending} (h:JRunW s now w e w'):JRunR s now w e w':=by
 obtain ⟨A1,c1,l1,A2,c2,l2,h1,h2,h3,h4,h5,h6⟩:=h
 exact ⟨A1,c1,l1,A2,c2,l2,h1,h2,h3,h4.rows,h5.rows,h6⟩
theorem zld {s:Jb.Jt} {fm:Bool} (h:Jb.chk s now fm=0):s.ok∧now≤281474976710656∧fm=true∧s.now≤now:=by
 unfold Jb.chk at h
 split at h
 · cases h
 · rename_i h1
   split at h
   · cases h
   · rename_i h2
     refine ⟨?_,?_,?_,by omega⟩
     · by_cases h3:s.ok
       · exact h3
       · exact absurd (Or.inl h3) h1
     · by_cases h3:now≤281474976710656
       · exact h3
       · exact absurd (Or.inr (Or.inl (by omega))) h1
     · cases fm
       · exact absurd (Or.inr (Or.inr rfl)) h1
       · rfl
theorem zle {s:Jb.Jt} (h:s.ok) (hq:l.map TW.w=s.q):l.length≤200∧∀ a∈l,a.w.m.pl.length≤1500:=by
 obtain ⟨q1,q2,_,_⟩:=(Jb.okQ_iff _ _ _).1 h.2.2.2.2
 refine ⟨by rw [← hq] at q1;simpa using q1,fun a A => ?_⟩
 exact (q2 a.w (by rw [← hq];exact List.mem_map.2 ⟨a,A,rfl⟩)).1.2.2
theorem ztj (le C nw:Int) (on:Bool) (ze fi hi dn sp tr:Int) (A:Option Addr) (l:List TW) (n qc:Nat) (la tw pd:Int) (now:Int) (w:World) (hn:l.length=n) (hl:n≤100000) (Av:n≤qc) (Dq:qc≤maxLen) (Y:Wts w w.heap.size A l) (hK:∀ a∈l,I64 a.w.m.sq):Calls Tryz.prog 87 #[.agg #[.int .i64 le, .int .i64 C, .int .i64 nw, .bool on, .int .i64 ze, .int .i64 fi, .int .i64 hi, .int .i64 dn, .int .i64 sp, .int .i64 tr, .slice A n qc, .int .i64 la, .int .i64 tw, .int .i64 pd], .int .i64 now] w (JRunW ⟨le,C,nw,on,ze,fi,hi,dn,sp,tr,l.map TW.w,la,tw,pd⟩ now w):=by
 subst hn
 obtain ⟨r,hr⟩:=nm9 (Jb.chk ⟨le,C,nw,on,ze,fi,hi,dn,sp,tr,l.map TW.w,la,tw,pd⟩ now true)
 have HR:=Z9 hr
 have p:Bel w ((w.alloc (.cells #[.int .i64 le, .int .i64 C, .int .i64 nw, .bool on, .int .i64 ze, .int .i64 fi, .int .i64 hi, .int .i64 dn, .int .i64 sp, .int .i64 tr, .slice A l.length qc, .int .i64 la, .int .i64 tw, .int .i64 pd] 37)).alloc (.cells #[.int .i64 0, .int .i64 0, .int .i64 0, .bool false, .int .i64 0, .int .i64 0, .int .i64 0, .int .i64 0, .int .i64 0, .int .i64 0, .slice none 0 0, .int .i64 0, .int .i64 0, .int .i64 0] 37)):=((Bel.refl w).push _).push _
 have k1:=Z9 fun (W:World) (K:Bel w W)=>zfk le C nw on ze fi hi dn sp tr A l l.length qc la tw pd now 0 0 false 0 none 0 0 W rfl hl ((Y.below K).more K.size) hK true (by rfl) r hr
 have T:=Z9 p
 have BS:=Z9 ((Blk.new w 37 #[.int .i64 le, .int .i64 C, .int .i64 nw, .bool on, .int .i64 ze, .int .i64 fi, .int .i64 hi, .int .i64 dn, .int .i64 sp, .int .i64 tr, .slice A l.length qc, .int .i64 la, .int .i64 tw, .int .i64 pd]).push (.cells #[.int .i64 0, .int .i64 0, .int .i64 0, .bool false, .int .i64 0, .int .i64 0, .int .i64 0, .int .i64 0, .int .i64 0, .int .i64 0, .slice none 0 0, .int .i64 0, .int .i64 0, .int .i64 0] 37))
 have BR:=Z9 (Blk.new1 w (.cells #[.int .i64 le, .int .i64 C, .int .i64 nw, .bool on, .int .i64 ze, .int .i64 fi, .int .i64 hi, .int .i64 dn, .int .i64 sp, .int .i64 tr, .slice A l.length qc, .int .i64 la, .int .i64 tw, .int .i64 pd] 37) 37 #[.int .i64 0, .int .i64 0, .int .i64 0, .bool false, .int .i64 0, .int .i64 0, .int .i64 0, .int .i64 0, .int .i64 0, .int .i64 0, .slice none 0 0, .int .i64 0, .int .i64 0, .int .i64 0])
 have HA:=Z9 Y
 clear hr p Y
 by_cases V:r=0
 rotate_left
 · have Ao:(r != 0)=true:=by simpa using V
   have HN:=Z9 V
   clear V
   go_enter Tryz.func87,Tryz.ntmps87
   go_wp2_with fail
   refine (k1.out _ T.out).mono ?_
   rintro e w1 ⟨rfl,H⟩
   have R:=Z9 (T.out.later H)
   have F:=Z9 (BS.out.later H)
   have D:=Z9 (BR.out.later H)
   have Ib:=D.out.lt
   clear H
   have r0:=(D.out).at 0 _ rfl
   have r1:=(D.out).at 1 _ rfl
   have r2:=(D.out).at 2 _ rfl
   have r3:=(D.out).at 3 _ rfl
   have r4:=(D.out).at 4 _ rfl
   have r5:=(D.out).at 5 _ rfl
   have r6:=(D.out).at 6 _ rfl
   have r7:=(D.out).at 7 _ rfl
   have r8:=(D.out).at 8 _ rfl
   have r9:=(D.out).at 9 _ rfl
   have aP:=(D.out).at 10 _ rfl
   have wS:=(D.out).at 11 _ rfl
   have wR:=(D.out).at 12 _ rfl
   have wQ:=(D.out).at 13 _ rfl
   have wO:=D.out.frozen
   go_wp2_with fail
   have N:=Blk.setRow D.out [.int .i64 0, .int .i64 0, .int .i64 0, .bool false, .int .i64 0, .int .i64 0, .int .i64 0, .int .i64 0, .int .i64 0, .int .i64 0, .slice none 0 0, .int .i64 0, .int .i64 0, .int .i64 0] rfl
   have M:=below_setRow (g:=w.heap.size+1) (by omega) [.int .i64 0, .int .i64 0, .int .i64 0, .bool false, .int .i64 0, .int .i64 0, .int .i64 0, .int .i64 0, .int .i64 0, .int .i64 0, .slice none 0 0, .int .i64 0, .int .i64 0, .int .i64 0] _ 0 R.out
   simp only [setRow,Nat.zero_add,Nat.reduceAdd] at N M
   have I:Jb.run ⟨le,C,nw,on,ze,fi,hi,dn,sp,tr,l.map TW.w,la,tw,pd⟩ now=(Jb.Jt.none,[],r):=by unfold Jb.run;rw [← HR.out,if_neg HN.out]
   refine bodyPost_ret (v := .tuple #[.agg (List.toArray [.int .i64 0, .int .i64 0, .int .i64 0, .bool false, .int .i64 0, .int .i64 0, .int .i64 0, .int .i64 0, .int .i64 0, .int .i64 0, .slice none 0 0, .int .i64 0, .int .i64 0, .int .i64 0]), .slice none 0 0, .int .u8 r]) (zbe Tryz.results87 rfl (run_loadVar_row (P:=Tryz.prog) _ _ _ _ _ _ _ N Tryz.underlying37 rfl (by kernel_rfl)) rfl rfl) rfl ⟨none,0,[],none,0,[],?_,?_,?_,WtsIn.empty,WtsIn.empty,Nat.le_refl _,by unfold maxLen;omega,M,Nat.le_refl _,Nat.zero_le _⟩
   · rw [I];rfl
   · rw [I];rfl
   · rw [I];rfl
 subst V
 obtain ⟨Z,Bj,_,hlt⟩:=zld HR.out.symm
 obtain ⟨Dd,Fk⟩:=zle (l:=l) Z rfl
 have u:=Z.2.2.1.2.2
 simp only at u hlt
 have k2:=Z9 fun (W:World) (K:Bel w W)=>zqb le C nw on ze fi hi dn sp tr A l l.length qc la tw pd now W rfl Dd Av Dq W.heap.size (Nat.le_refl _) ((HA.out.below K).more K.size) (fun a ha=>Nat.le_trans (Fk a ha) (by omega)) (by omega)
 have I:Jb.run ⟨le,C,nw,on,ze,fi,hi,dn,sp,tr,l.map TW.w,la,tw,pd⟩ now=(Jb.run0 ⟨le,C,nw,on,ze,fi,hi,dn,sp,tr,l.map TW.w,la,tw,pd⟩ now,Jb.due now (l.map TW.w),0):=by unfold Jb.run;rw [← HR.out,if_pos rfl]
 have X:=Z9 I
 clear Z Bj hlt u Dd Fk I
 go_enter Tryz.func87,Tryz.ntmps87
 go_wp2_with fail
 refine (k1.out _ T.out).mono ?_
 rintro e w1 ⟨rfl,H⟩
 have R:=Z9 (T.out.later H)
 have F:=Z9 (BS.out.later H)
 have D:=Z9 (BR.out.later H)
 have Ib:=D.out.lt
 clear H
 have s0:=(F.out).at 0 _ rfl
 have s1:=(F.out).at 1 _ rfl
 have o:=(F.out).at 2 _ rfl
 have j:=(F.out).at 3 _ rfl
 have i:=(F.out).at 4 _ rfl
 have h:=(F.out).at 5 _ rfl
 have f:=(F.out).at 6 _ rfl
 have d:=(F.out).at 7 _ rfl
 have c:=(F.out).at 8 _ rfl
 have b:=(F.out).at 9 _ rfl
 have Jh:=(F.out).at 10 _ rfl
 have Nv:=(F.out).at 11 _ rfl
 have Hz:=(F.out).at 12 _ rfl
 have Iq:=(F.out).at 13 _ rfl
 go_wp2_with fail
 refine (k2.out _ R.out).mono ?_
 rintro e w2 ⟨A1,c1,l1,A2,c2,l2,B,rfl,Be,Ay,z,Cu,Pr,Fi,t,J⟩
 have x:=Z9 t
 clear t
 have U2:=Z9 (R.out.later J)
 have G:=Z9 (F.out.later J)
 have E:=Z9 (D.out.later J)
 have Re:=Z9 Be
 have Fp:=Z9 Ay
 have Tt:=Z9 z
 have Td:=Z9 Cu
 have Bu:=J.size
 clear J Be Ay z Cu s0 s1 o j i h f d c b Jh Nv Hz Iq
 have s0:=(G.out).at 0 _ rfl
 have s1:=(G.out).at 1 _ rfl
 have o:=(G.out).at 2 _ rfl
 have j:=(G.out).at 3 _ rfl
 have i:=(G.out).at 4 _ rfl
 have h:=(G.out).at 5 _ rfl
 have f:=(G.out).at 6 _ rfl
 have d:=(G.out).at 7 _ rfl
 have c:=(G.out).at 8 _ rfl
 have b:=(G.out).at 9 _ rfl
 have Jh:=(G.out).at 10 _ rfl
 have Nv:=(G.out).at 11 _ rfl
 have Hz:=(G.out).at 12 _ rfl
 have Iq:=(G.out).at 13 _ rfl
 have r0:=(E.out).at 0 _ rfl
 have r1:=(E.out).at 1 _ rfl
 have r2:=(E.out).at 2 _ rfl
 have r3:=(E.out).at 3 _ rfl
 have r4:=(E.out).at 4 _ rfl
 have r5:=(E.out).at 5 _ rfl
 have r6:=(E.out).at 6 _ rfl
 have r7:=(E.out).at 7 _ rfl
 have r8:=(E.out).at 8 _ rfl
 have r9:=(E.out).at 9 _ rfl
 have aP:=(E.out).at 10 _ rfl
 have wS:=(E.out).at 11 _ rfl
 have wR:=(E.out).at 12 _ rfl
 have wQ:=(E.out).at 13 _ rfl
 have sfz:=G.out.frozen
 have wO:=E.out.frozen
 go_wp2_with fail
 obtain ⟨L,OX⟩:=nm9 (setRow w.heap.size w2 0 [.int .i64 le, .int .i64 C, .int .i64 now, .bool on, .int .i64 ze, .int .i64 fi, .int .i64 hi, .int .i64 (Jb.maxSq dn (Jb.due now (l.map TW.w))), .int .i64 sp, .int .i64 tr, .slice A2 l2.length c2, .int .i64 la, .int .i64 tw, .int .i64 (pd+(Jb.due now (l.map TW.w)).length)])
 have BA:=E.out.farRow (g':=w.heap.size) (by omega) [.int .i64 le, .int .i64 C, .int .i64 now, .bool on, .int .i64 ze, .int .i64 fi, .int .i64 hi, .int .i64 (Jb.maxSq dn (Jb.due now (l.map TW.w))), .int .i64 sp, .int .i64 tr, .slice A2 l2.length c2, .int .i64 la, .int .i64 tw, .int .i64 (pd+(Jb.due now (l.map TW.w)).length)] w2 0
 have y:=below_setRow (g:=w.heap.size) (Nat.le_refl _) [.int .i64 le, .int .i64 C, .int .i64 now, .bool on, .int .i64 ze, .int .i64 fi, .int .i64 hi, .int .i64 (Jb.maxSq dn (Jb.due now (l.map TW.w))), .int .i64 sp, .int .i64 tr, .slice A2 l2.length c2, .int .i64 la, .int .i64 tw, .int .i64 (pd+(Jb.due now (l.map TW.w)).length)] w2 0 U2.out
 have QA:=QOwn.setRow (g:=w.heap.size) (by omega) [.int .i64 le, .int .i64 C, .int .i64 now, .bool on, .int .i64 ze, .int .i64 fi, .int .i64 hi, .int .i64 (Jb.maxSq dn (Jb.due now (l.map TW.w))), .int .i64 sp, .int .i64 tr, .slice A2 l2.length c2, .int .i64 la, .int .i64 tw, .int .i64 (pd+(Jb.due now (l.map TW.w)).length)] w2 0 Td.out
 have SA:=zbn w.heap.size [.int .i64 le, .int .i64 C, .int .i64 now, .bool on, .int .i64 ze, .int .i64 fi, .int .i64 hi, .int .i64 (Jb.maxSq dn (Jb.due now (l.map TW.w))), .int .i64 sp, .int .i64 tr, .slice A2 l2.length c2, .int .i64 la, .int .i64 tw, .int .i64 (pd+(Jb.due now (l.map TW.w)).length)] w2 0
 have RW:=WtsIn.setRow (g:=w.heap.size) (lo:=w1.heap.size) (by omega) [.int .i64 le, .int .i64 C, .int .i64 now, .bool on, .int .i64 ze, .int .i64 fi, .int .i64 hi, .int .i64 (Jb.maxSq dn (Jb.due now (l.map TW.w))), .int .i64 sp, .int .i64 tr, .slice A2 l2.length c2, .int .i64 la, .int .i64 tw, .int .i64 (pd+(Jb.due now (l.map TW.w)).length)] w2 0 Tt.out
 rw [← OX] at BA y QA SA RW
 have N:=Blk.setRow BA [.int .i64 le, .int .i64 C, .int .i64 now, .bool on, .int .i64 ze, .int .i64 fi, .int .i64 hi, .int .i64 (Jb.maxSq dn (Jb.due now (l.map TW.w))), .int .i64 sp, .int .i64 tr, .slice A2 l2.length c2, .int .i64 la, .int .i64 tw, .int .i64 (pd+(Jb.due now (l.map TW.w)).length)] rfl
 have M:=below_setRow (g:=w.heap.size+1) (by omega) [.int .i64 le, .int .i64 C, .int .i64 now, .bool on, .int .i64 ze, .int .i64 fi, .int .i64 hi, .int .i64 (Jb.maxSq dn (Jb.due now (l.map TW.w))), .int .i64 sp, .int .i64 tr, .slice A2 l2.length c2, .int .i64 la, .int .i64 tw, .int .i64 (pd+(Jb.due now (l.map TW.w)).length)] L 0 y
 have U:=QOwn.setRow (g:=w.heap.size+1) (by omega) [.int .i64 le, .int .i64 C, .int .i64 now, .bool on, .int .i64 ze, .int .i64 fi, .int .i64 hi, .int .i64 (Jb.maxSq dn (Jb.due now (l.map TW.w))), .int .i64 sp, .int .i64 tr, .slice A2 l2.length c2, .int .i64 la, .int .i64 tw, .int .i64 (pd+(Jb.due now (l.map TW.w)).length)] L 0 QA
 have Q:=zbn (w.heap.size+1) [.int .i64 le, .int .i64 C, .int .i64 now, .bool on, .int .i64 ze, .int .i64 fi, .int .i64 hi, .int .i64 (Jb.maxSq dn (Jb.due now (l.map TW.w))), .int .i64 sp, .int .i64 tr, .slice A2 l2.length c2, .int .i64 la, .int .i64 tw, .int .i64 (pd+(Jb.due now (l.map TW.w)).length)] L 0
 have RV:=WtsIn.setRow (g:=w.heap.size+1) (lo:=w1.heap.size) (by omega) [.int .i64 le, .int .i64 C, .int .i64 now, .bool on, .int .i64 ze, .int .i64 fi, .int .i64 hi, .int .i64 (Jb.maxSq dn (Jb.due now (l.map TW.w))), .int .i64 sp, .int .i64 tr, .slice A2 l2.length c2, .int .i64 la, .int .i64 tw, .int .i64 (pd+(Jb.due now (l.map TW.w)).length)] L 0 RW
 obtain ⟨WF,O⟩:=nm9 (setRow (w.heap.size+1) L 0 [.int .i64 le, .int .i64 C, .int .i64 now, .bool on, .int .i64 ze, .int .i64 fi, .int .i64 hi, .int .i64 (Jb.maxSq dn (Jb.due now (l.map TW.w))), .int .i64 sp, .int .i64 tr, .slice A2 l2.length c2, .int .i64 la, .int .i64 tw, .int .i64 (pd+(Jb.due now (l.map TW.w)).length)])
 rw [← O] at N M U Q RV
 rw [OX] at O
 simp only [setRow,Nat.zero_add,Nat.reduceAdd] at O
 rw [← O]
 have De:=U.own.cap
 have AQ:=Owns.capm U.own
 refine bodyPost_ret (v := .tuple #[.agg (List.toArray [.int .i64 le, .int .i64 C, .int .i64 now, .bool on, .int .i64 ze, .int .i64 fi, .int .i64 hi, .int .i64 (Jb.maxSq dn (Jb.due now (l.map TW.w))), .int .i64 sp, .int .i64 tr, .slice A2 l2.length c2, .int .i64 la, .int .i64 tw, .int .i64 (pd+(Jb.due now (l.map TW.w)).length)]), .slice A1 l1.length c1, .int .u8 0]) (zbe Tryz.results87 rfl (run_loadVar_row (P:=Tryz.prog) _ _ _ _ _ _ _ N Tryz.underlying37 rfl (by kernel_rfl)) rfl rfl) rfl ⟨A1,c1,l1,A2,c2,l2,?_,?_,?_,(RV.more ?_).less (by omega),U.wtsIn.less (by omega),De,AQ,M,x.out.1,x.out.2⟩
 · rw [X.out];rfl
 · rw [X.out];exact Re.out
 · rw [X.out];exact Fp.out
 · rw [Q,SA];exact Fi
def ordV (a:Jb.Wt) (at0 sq0:Int):Int:=if a.at_<at0 then -1 else if at0<a.at_ then 1 else if a.m.sq<sq0 then -1 else if sq0<a.m.sq then 1 else 0
theorem zlf (a x:Jb.Wt):ordV a x.at_ x.m.sq<0↔Jb.bef a x:=by
 unfold ordV Jb.bef
 constructor
 · intro h
   repeat (first|(split at h)|omega)
 · intro h
   repeat (first|split|omega)
theorem zwp (a x:Jb.Wt) (h:a.m.sq≠x.m.sq):ordV a x.at_ x.m.sq≠0:=by
 unfold ordV
 repeat (first|split|omega)
def place (q:List Jb.Wt) (x:Jb.Wt):Nat:=(q.takeWhile fun y=>decide (Jb.bef y x)).length
theorem zlg (x:Jb.Wt):∀ (q:List Jb.Wt) (k:Nat),k≤q.length→(∀ i (h:i<q.length),i<k→Jb.bef q[i] x)→(∀ i (h:i<q.length),k≤i→¬Jb.bef q[i] x)→place q x=k
 | [],k,hk,_,_=>by simp at hk;subst hk;rfl
 | a :: q, 0, _, _, h2 => by
   have:=h2 0 (by simp) (by omega)
   unfold place
   rw [List.takeWhile_cons,if_neg (by simpa using this)]
   rfl
 | a :: q, k + 1, hk, h1, h2 => by
   have h0:=h1 0 (by simp) (by omega)
   have ih:=zlg x q k (by simpa using hk) (fun i h hi=>by have:=h1 (i+1) (by simp;omega) (by omega);simpa using this) (fun i h hi=>by have:=h2 (i+1) (by simp;omega) (by omega);simpa using this)
   unfold place at ih ⊢
   rw [List.takeWhile_cons,if_pos (by simpa using h0)]
   simp [ih]
theorem zjr (q:List Jb.Wt) (x:Jb.Wt):Jb.ins q x=q.take (place q x)++x::q.drop (place q x):=by
 have h:(q.takeWhile fun y=>decide (Jb.bef y x))++(q.dropWhile fun y=>decide (Jb.bef y x))=q:=List.takeWhile_append_dropWhile
 unfold Jb.ins place
 obtain ⟨a,A⟩:=nm9 (q.takeWhile fun y=>decide (Jb.bef y x))
 obtain ⟨b,hb⟩:=nm9 (q.dropWhile fun y=>decide (Jb.bef y x))
 rw [← A,← hb] at h ⊢
 rw [← h,List.take_left,List.drop_left]
theorem ztk (q:List Jb.Wt) (x:Jb.Wt):place q x≤q.length:=(List.takeWhile_prefix _).length_le
theorem zjs (A:Option Addr) (l:List TW) (n c:Nat) (x:Jb.Wt) (M:Option Addr) (n0 c0:Nat) (w:World) (hn:l.length=n) (hl:n≤100000) (hA:Wts w w.heap.size A l) (Tn:(l.map TW.w).Pairwise Jb.bef) (Ao:∀ y∈l.map TW.w,y.m.sq≠x.m.sq):Calls Tryz.prog 99 #[.slice A n c, .agg #[.int .i64 x.at_, .int .i64 x.m.sq, .int .i64 x.m.ti, .bool x.m.mrk, .int .u8 x.m.ty, .slice M n0 c0], .func (Fn.func 100) #[] #[]] w fun e w'=>e = .returned (.tuple #[.int .i64 (place (l.map TW.w) x), .bool false])∧Below w.heap.size w w':=by
 subst hn
 obtain ⟨P,hP⟩:=nm9 (place (l.map TW.w) x)
 rw [← hP]
 have HP:=Z9 hP
 have HA:=Z9 hA
 have Yb:=Z9 Tn
 have vF:=Z9 Ao
 have T3:=Z9 (zlf)
 obtain ⟨⟨at0,⟨sq0,ti0,H,ty0,pl0⟩⟩,hX⟩:∃ y,y=x:=⟨x,rfl⟩
 subst hX
 simp only at HP Yb vF ⊢
 clear hP hA Tn Ao
 have BX:=Z9 (Blk.new w 220 #[.int .i64 at0, .int .i64 sq0, .int .i64 ti0, .bool H, .int .u8 ty0, .slice M n0 c0])
 have U0:=Z9 ((Bel.refl w).push (.cells #[.int .i64 at0, .int .i64 sq0, .int .i64 ti0, .bool H, .int .u8 ty0, .slice M n0 c0] 220))
 go_enter Tryz.func99,Tryz.ntmps99
 go_wp2_with fail
 go_loopg [9,10] l.length (fun gk i j wr => ∃ a b:Nat,gk=b-a∧i = .int .i64 a∧j = .int .i64 b∧a≤b∧b≤l.length∧Hid (∀ k (h:k<(l.map TW.w).length),k<a→Jb.bef (l.map TW.w)[k] ⟨at0,⟨sq0,ti0,H,ty0,pl0⟩⟩)∧Hid (∀ k (h:k<(l.map TW.w).length),b≤k→¬Jb.bef (l.map TW.w)[k] ⟨at0,⟨sq0,ti0,H,ty0,pl0⟩⟩)∧Hid (Blk wr w.heap.size 220 #[.int .i64 at0, .int .i64 sq0, .int .i64 ti0, .bool H, .int .u8 ty0, .slice M n0 c0])∧Hid (Bel w wr))
 case atStart=>exact ⟨0,l.length,rfl,rfl,rfl,by omega,by omega,Z9 (fun k h hk=>absurd hk (by omega)),Z9 (fun k h hk=>absurd h (by simp;omega)),BX,U0⟩
 case round =>
  obtain ⟨a,b,Xf,rfl,rfl,Yp,Zx,HL,HG,C,U⟩:=hrel
  have Ey:(0:Int)≤(a:Int):=by omega
  have Nz:(0:Int)≤(b:Int):=by omega
  have Ab:(b:Int)≤(l.length:Int):=by omega
  by_cases hlt:a<b
  rotate_left
  · obtain rfl:a=b:=by omega
    have dW:P=a:=by rw [HP.out];exact zlg _ _ a (by simp;omega) HL.out HG.out
    subst dW
    by_cases D4:P<l.length
    rotate_left
    · obtain rfl:P=l.length:=by omega
      have Iw:decide ((l.length:Int)<(l.length:Int))=false:=by simp
      go_wp2_with fail
      go_quiet (fail)
      go_wp2_with fail
      go_ret2
      exact ⟨by first|rfl|simp,U.out.drewN _⟩
    have C8:(P:Int)<(l.length:Int):=by omega
    have Wx:(P:Int)≤(P:Int):=Int.le_refl _
    obtain ⟨t,Y⟩:∃ a,l[P]? = some a:=⟨_,List.getElem?_eq_getElem (by omega)⟩
    obtain ⟨E,D,rfl,tZ,q0,q1,q2,V,T,O⟩:=zes (HA.out.1.keep (fun p hp=>U.out.cell hp)) Y
    have u:(l.map TW.w)[P]? = some t.w:=by rw [List.getElem?_map,Y];rfl
    have o:=Z9 u
    obtain ⟨⟨F,⟨G,K,I,L,J⟩⟩,v,c9⟩:=t
    simp only at q0 q1 q2 V T O o
    clear Y u
    have d:=Z9 fun W=>zet F G K L at0 sq0 ti0 ty0 I H v M J.length c9 n0 c0 W
    obtain ⟨R,X⟩:∃ R:Int,R=if F<at0 then -1 else if at0<F then 1 else if G<sq0 then -1 else if sq0<G then 1 else 0:=⟨_,rfl⟩
    rw [← X] at d
    have HR:Hid (R=ordV ⟨F,⟨G,K,I,L,J⟩⟩ at0 sq0):=Z9 X
    clear X
    have f0:=C.out.at 0 _ rfl
    have f1:=C.out.at 1 _ rfl
    have f2:=C.out.at 2 _ rfl
    have g:=C.out.at 3 _ rfl
    have f4:=C.out.at 4 _ rfl
    have f:=C.out.at 5 _ rfl
    have Pe:=C.out.lt
    have hU:Below wr.heap.size wr wr:=Below.refl _ _
    have Iw:decide ((P:Int)<(l.length:Int))=true:=by simpa using D4
    have hRn:(R==0)=false:=by
     have Q:=zwp ⟨F,⟨G,K,I,L,J⟩⟩ ⟨at0,⟨sq0,ti0,H,ty0,pl0⟩⟩ (vF.out _ (List.mem_of_getElem? o.out))
     rw [← HR.out] at Q
     simpa using Q
    go_wp2_with fail
    go_region_held3 (fun w'=>Below wr.heap.size wr w'∧w'.cell? ⟨w.heap.size,0,none⟩=some (.int .i64 at0)∧w'.cell? ⟨w.heap.size,1,none⟩=some (.int .i64 sq0)∧w'.cell? ⟨w.heap.size,2,none⟩=some (.int .i64 ti0)∧w'.cell? ⟨w.heap.size,3,none⟩=some (.bool H)∧w'.cell? ⟨w.heap.size,4,none⟩=some (.int .u8 ty0)∧w'.cell? ⟨w.heap.size,5,none⟩=some (.slice M n0 c0)∧w'.cell? ⟨E,D+P*6,none⟩=some (.int .i64 F)∧w'.cell? ⟨E,D+P*6+1,none⟩=some (.int .i64 G)∧w'.cell? ⟨E,D+P*6+2,none⟩=some (.int .i64 K)∧w'.cell? ⟨E,D+P*6+3,none⟩=some (.bool I)∧w'.cell? ⟨E,D+P*6+4,none⟩=some (.int .u8 L)∧w'.cell? ⟨E,D+P*6+5,none⟩=some (.slice v J.length c9))
     (first|assumption|((try go_split_ands);refine zcv ?_ (fun B=>⟨zae B f0,zae B f1,zae B f2,zae B g,zae B f4,zae B f,zae B q0,zae B q1,zae B q2,zae B V,zae B T,zae B O⟩);(with_reducible repeat first|assumption|exact zak (by assumption) (by assumption)|refine Below.drew ?_|refine zaj ?_ _)))
     (first|(go_at_call 100;refine (d.out _).mono ?_;rintro e w' ⟨rfl,N⟩;have Z:Below wr.heap.size wr w':=zak N (by (try go_split_ands);assumption);obtain ⟨De,Rr⟩:=zul N))
    all_goals
     have UZ:=Z9 (U.out.later Z)
     have BZ:=Z9 (C.out.later Z)
     clear De Rr Z N q0 q1 q2 V T O f0 f1 f2 g f4 f hU
     go_wp2_with fail
     go_ret2
     exact ⟨by first|rfl|simp,UZ.out⟩
  obtain ⟨h,hh⟩:=nm9 ((a+b) / 2)
  have he:((a:Int)+(b:Int)) / 2=(h:Int):=by omega
  have hh0:(0:Int)≤(h:Int):=by omega
  have zI:(h:Int)<(l.length:Int):=by omega
  have eH:(a:Int)<(b:Int):=by omega
  have hah:a≤h:=by omega
  have hhb:h<b:=by omega
  clear hh
  go_wp2_with fail
  obtain ⟨t,Y⟩:∃ a,l[h]? = some a:=⟨_,List.getElem?_eq_getElem (by omega)⟩
  obtain ⟨E,D,rfl,tZ,q0,q1,q2,V,T,O⟩:=zes (HA.out.1.keep (fun p hp=>U.out.cell hp)) Y
  have u:(l.map TW.w)[h]? = some t.w:=by rw [List.getElem?_map,Y];rfl
  have o:=Z9 u
  obtain ⟨⟨F,⟨G,K,I,L,J⟩⟩,v,c9⟩:=t
  simp only at q0 q1 q2 V T O o
  clear Y u
  have d:=Z9 fun W=>zet F G K L at0 sq0 ti0 ty0 I H v M J.length c9 n0 c0 W
  obtain ⟨R,X⟩:∃ R:Int,R=if F<at0 then -1 else if at0<F then 1 else if G<sq0 then -1 else if sq0<G then 1 else 0:=⟨_,rfl⟩
  rw [← X] at d
  have HR:Hid (R=ordV ⟨F,⟨G,K,I,L,J⟩⟩ at0 sq0):=Z9 X
  clear X
  have f0:=C.out.at 0 _ rfl
  have f1:=C.out.at 1 _ rfl
  have f2:=C.out.at 2 _ rfl
  have g:=C.out.at 3 _ rfl
  have f4:=C.out.at 4 _ rfl
  have f:=C.out.at 5 _ rfl
  have Pe:=C.out.lt
  have hU:Below wr.heap.size wr wr:=Below.refl _ _
  go_region_held3 (fun w'=>Below wr.heap.size wr w'∧w'.cell? ⟨w.heap.size,0,none⟩=some (.int .i64 at0)∧w'.cell? ⟨w.heap.size,1,none⟩=some (.int .i64 sq0)∧w'.cell? ⟨w.heap.size,2,none⟩=some (.int .i64 ti0)∧w'.cell? ⟨w.heap.size,3,none⟩=some (.bool H)∧w'.cell? ⟨w.heap.size,4,none⟩=some (.int .u8 ty0)∧w'.cell? ⟨w.heap.size,5,none⟩=some (.slice M n0 c0)∧w'.cell? ⟨E,D+h*6,none⟩=some (.int .i64 F)∧w'.cell? ⟨E,D+h*6+1,none⟩=some (.int .i64 G)∧w'.cell? ⟨E,D+h*6+2,none⟩=some (.int .i64 K)∧w'.cell? ⟨E,D+h*6+3,none⟩=some (.bool I)∧w'.cell? ⟨E,D+h*6+4,none⟩=some (.int .u8 L)∧w'.cell? ⟨E,D+h*6+5,none⟩=some (.slice v J.length c9))
   (first|assumption|((try go_split_ands);refine zcv ?_ (fun B=>⟨zae B f0,zae B f1,zae B f2,zae B g,zae B f4,zae B f,zae B q0,zae B q1,zae B q2,zae B V,zae B T,zae B O⟩);(with_reducible repeat first|assumption|exact zak (by assumption) (by assumption)|refine Below.drew ?_|refine zaj ?_ _)))
   (first|(go_at_call 100;refine (d.out _).mono ?_;rintro e w' ⟨rfl,N⟩;have Z:Below wr.heap.size wr w':=zak N (by (try go_split_ands);assumption);obtain ⟨De,Rr⟩:=zul N))
  all_goals
   have UZ:=Z9 (U.out.later Z)
   have BZ:=Z9 (C.out.later Z)
   clear De Rr Z N q0 q1 q2 V T O f0 f1 f2 g f4 f hU
   have OK:Jb.bef ((l.map TW.w)[h]'(by simp;omega)) ⟨at0,⟨sq0,ti0,H,ty0,pl0⟩⟩↔R<0:=by
    have Q:=(List.getElem?_eq_some_iff.1 o.out).2
    rw [Q,HR.out]
    exact (zlf ⟨F,⟨G,K,I,L,J⟩⟩ ⟨at0,⟨sq0,ti0,H,ty0,pl0⟩⟩).symm
   have z:=Z9 OK
   clear OK
   by_cases Xo:R<0
   · go_wp2_with fail
     go_roundg (b-(h+1))
     case measure=>omega
     case rel =>
      refine ⟨h+1,b,rfl,by go_num,rfl,by omega,Zx,Z9 (fun k hk Qw => ?_),HG,BZ,UZ⟩
      by_cases Wz:k=h
      · subst Wz;exact z.out.2 Xo
      · exact Jb.bef_trans (List.pairwise_iff_getElem.1 Yb.out k h hk (by simp;omega) (by omega)) (z.out.2 Xo)
   · have Qn:0≤R:=by omega
     go_wp2_with fail
     go_roundg (h-a)
     case measure=>omega
     case rel =>
      refine ⟨a,h,rfl,rfl,rfl,by omega,by omega,HL,Z9 (fun k hk Qw Rt => ?_),BZ,UZ⟩
      by_cases Wz:k=h
      · subst Wz;exact absurd (z.out.1 Rt) (by omega)
      · exact absurd (z.out.1 (Jb.bef_trans (List.pairwise_iff_getElem.1 Yb.out h k (by simp;omega) hk (by omega)) Rt)) (by omega)
theorem zbs (w:World) (D F ty B:TypeId) (size:Nat) (g o A I:Nat) (a:Addr) (C E:Nat) (cur:Array Value) (t:TypeId) (cs:List Value)
 (hu:P.underlying D=some (.slice B)) (hs:(P.info? B).map (·.size)=some size)
 (hg:w.heap[g]? = some (.cells cur t (0,0))) (hn:cs.length=Nat.min C A*size)
 (H:∀ j v,cs[j]? = some v→w.cell? (a.add j)=some v) (G:o+cs.length≤cur.size) (h1:∀ v∈cs,v.oneCell'=true) :
 (Builtin.copy_ #[D,F] ty #[.slice (some ⟨g,o,none⟩) A I, .slice (some a) C E]).run P w =
  .ok (goInt (Nat.min C A)) (w.setRow g (cur.toList.take o++cs++cur.toList.drop (o+cs.length)).toArray):=by
 have hl:=run_loadCells_list (P:=P) w a cs H
 have J:=run_storeCells_at P g o t cs 0 cur w hg (by simpa using G) h1
 cases hq:P.info? B with
 | none=>simp [hq] at hs
 | some i =>
   have hi:i.size=size:=by simpa [hq] using hs
   simp [Builtin.copy_,run_underlying hu,Builtin.lenOf,Builtin.firstCells,sizeOf,typeInfo,hq,hi,← hn,hl,J]
theorem zyf (w:World):(Go.sizeOf 220).run Tryz.prog w = .ok 6 w:=by kernel_rfl
theorem zfu (w:World) (A off m D g o G H:Nat) (N:A≠g) (F E:TypeId) (C B:Nat) (M:w.shape? A=some (F,C)) (I:w.shape? g=some (E,B)) (L:B≠0) (J:w.frozen? ⟨A,off,none⟩=false) (K:w.frozen? ⟨A,C,none⟩=false) :
 (callFunc 130 #[.slice (some ⟨A,off,none⟩) m D, .slice (some ⟨g,o,none⟩) G H]).run Tryz.prog w = .ok (.value (.bool false)) w:=by
 rw [run_callFunc_extern Tryz.func130 (by kernel_rfl) (by kernel_rfl) (by kernel_rfl) (e:=Extern.SlicesOverlaps.overlaps #[35,35] #[4]) (by kernel_rfl),
  Lib.run_overlaps_apart w 35 4 220 Tryz.underlying35 6 zyf ⟨A,off,none⟩ ⟨g,o,none⟩ m D G H N F E C B M I L J K]
 rfl
theorem ztl {α : Type} (L cs:List α) (i n c k:Nat) (hk:cs.length=k) (hi:i<n) (hn:n+1≤c) (A:L.length=c*k) :
 ((L.take ((i + 1) * k) ++ (L.drop (i * k)).take ((n - i) * k) ++ L.drop ((i + 1) * k + (n - i) * k)).take (i * k) ++ cs ++ (L.take ((i + 1) * k) ++ (L.drop (i * k)).take ((n - i) * k) ++ L.drop ((i + 1) * k + (n - i) * k)).drop (i * k + k)) =
   L.take (i*k)++cs++(L.drop (i*k)).take ((n-i)*k)++L.drop ((n+1)*k):=by
 have C:(i+1)*k=i*k+k:=by rw [Nat.add_mul,Nat.one_mul]
 have B:(i+1)*k+(n-i)*k=(n+1)*k:=by rw [← Nat.add_mul];congr 1;omega
 have D:(i+1)*k≤L.length:=by rw [A];exact Nat.mul_le_mul_right k (by omega)
 have hl:(L.take ((i+1)*k)).length=i*k+k:=by rw [List.length_take,← C];omega
 rw [B]
 have h1:(L.take ((i+1)*k)++(L.drop (i*k)).take ((n-i)*k)++L.drop ((n+1)*k)).take (i*k)=L.take (i*k):=by
  rw [List.append_assoc,List.take_append_of_le_length (by rw [hl];omega),List.take_take,Nat.min_eq_left (by omega)]
 have h2:(L.take ((i+1)*k)++(L.drop (i*k)).take ((n-i)*k)++L.drop ((n+1)*k)).drop (i*k+k)=(L.drop (i*k)).take ((n-i)*k)++L.drop ((n+1)*k):=by
  rw [List.append_assoc,← hl,List.drop_left]
 rw [h1,h2]
 simp
theorem Blk.shape {t:TypeId} {cs:Array Value} (h:Blk w g t cs):w.shape? g=some (t,cs.size):=by
 unfold Blk at h
 simp [World.shape?,h]
theorem zjt (g n c i B:Nat) (cur:Array Value) (cs:List Value) (w:World) (hi:i<n) (x:n+1≤c) (a:c≤maxLen) (f:B≠g) (hB:Blk w g 220 cur) (F:Blk w B 220 cs.toArray) (b:cs.length=6) (O:cur.size=c*6) (h1:∀ v∈cur.toList.take (n*6),v.oneCell'=true) (h2:∀ v∈cs,v.oneCell'=true) :
 Calls Tryz.prog 101 #[.slice (some ⟨g,0,none⟩) n c, .int .i64 i, .slice (some ⟨B,0,none⟩) 1 1] w fun e w'=>e = .returned (.slice (some ⟨g,0,none⟩) (n+1) c)∧Blk w' g 220 (cur.toList.take (i*6)++(cs++((cur.toList.drop (i*6)).take ((n-i)*6)++cur.toList.drop ((n+1)*6)))).toArray∧w.grownBy w' (some g):=by
 unfold maxLen at a
 have h:=fun (o m t:Nat)=>zfu w B 0 1 1 g o m t f _ _ _ _ F.shape hB.shape (by rw [O];omega) (F.frozen 0) (F.frozen _)
 have Cl:¬((i:Int)=(n:Int)):=by omega
 have Sn:IntKind.i64.wrap ((i:Int)+1)=(i:Int)+1:=zaz _ (by omega) (by omega)
 have Ua:IntKind.i64.wrap ((n:Int)+1)=(n:Int)+1:=zaz _ (by omega) (by omega)
 have Ez:i≤n:=by omega
 have Ab:(0:Int)≤(i:Int)+1:=by omega
 have tI:((i:Int)+1).toNat=i+1:=by omega
 have Ad:¬(c=i+1):=by omega
 have Aq:(i:Int)≤(n:Int)+1:=by omega
 have Qm:¬(c=i):=by omega
 have Pf:(n:Int)+1≤(c:Int):=by omega
 have R:=Z9 hB
 have y:=Z9 F
 have J:=Z9 b
 have U:=Z9 O
 have Q:=Z9 h1
 have z:=Z9 h2
 clear hB F b O h1 h2
 obtain ⟨C,G⟩:∃ C:List Value,C=(cur.toList.drop (i*6)).take ((n-i)*6):=⟨_,rfl⟩
 have I:cur.toList.length=c*6:=by simpa using U.out
 have E:C.length=(n-i)*6:=by rw [G,List.length_take,List.length_drop,I];omega
 have T:(Tryz.prog.info? 220).map (·.size)=some 6:=by kernel_rfl
 have L:∀ ty dc sc,(Builtin.copy_ #[35,35] ty #[.slice (some ⟨g,(i+1)*6,none⟩) (n-i) dc, .slice (some ⟨g,i*6,none⟩) (n+1-i) sc]).run Tryz.prog w.drew = .ok (goInt (Nat.min (n+1-i) (n-i))) (w.drew.setRow g (cur.toList.take ((i+1)*6)++C++cur.toList.drop ((i+1)*6+C.length)).toArray):=fun ty dc sc =>
  zbs w.drew _ _ ty 220 6 g ((i+1)*6) (n-i) dc ⟨g,i*6,none⟩ (n+1-i) sc cur 220 C Tryz.underlying35 T R.out (by rw [E,show Nat.min (n+1-i) (n-i)=n-i by simp only [Nat.min_def];split<;>omega])
   (fun j v D=>by
    have p:=R.out.cell (i*6+j)
    rw [G,List.getElem?_take] at D
    split at D
    · rw [List.getElem?_drop] at D
      rw [Addr.add_lit]
      exact p.trans (by simpa using D)
    · cases D)
   (by rw [E,U.out];omega)
   (fun v hv=>by
    rw [G,show (n-i)*6=n*6-i*6 by omega,← List.drop_take] at hv
    exact Q.out v (List.mem_of_mem_drop hv))
 obtain ⟨A,K⟩:∃ A:List Value,A=cur.toList.take ((i+1)*6)++C++cur.toList.drop ((i+1)*6+C.length):=⟨_,rfl⟩
 have Y:A.length=c*6:=by rw [K,E];simp only [List.length_append,List.length_take,List.length_drop,I,E];omega
 rw [← K] at L
 obtain ⟨W1,H⟩:=nm9 (w.drew.setRow g A.toArray)
 have N:Blk W1 g 220 A.toArray:=by rw [H];exact setRow_heap w.drew g cur A.toArray _ _ R.out
 have Z:Blk W1 B 220 cs.toArray:=by rw [H];exact (setRow_other w.drew g B A.toArray f).trans y.out
 rw [← H] at L
 have M:∀ (W:World),W.heap=W1.heap→∀ ty dc,(Builtin.copy_ #[35,35] ty #[.slice (some ⟨g,i*6,none⟩) (n+1-i) dc, .slice (some ⟨B,0,none⟩) 1 1]).run Tryz.prog W = .ok (goInt (Nat.min 1 (n+1-i))) (W.setRow g (A.take (i*6)++cs++A.drop (i*6+cs.length)).toArray):=fun W X ty dc=>by
  have l:Blk W g 220 A.toArray:=by unfold Blk;rw [X];exact N
  have CH:Blk W B 220 cs.toArray:=by unfold Blk;rw [X];exact Z
  have:=zbs (P:=Tryz.prog) W 35 35 ty 220 6 g (i*6) (n+1-i) dc ⟨B,0,none⟩ 1 1 A.toArray 220 cs Tryz.underlying35 T l (by rw [J.out,show Nat.min 1 (n+1-i)=1 by simp only [Nat.min_def];split<;>omega])
   (fun j v D=>by rw [Addr.add_lit,CH.cell];simpa using D) (by rw [J.out];simp [Y];omega) z.out
  exact this
 have d:A.take (i*6)++cs++A.drop (i*6+cs.length)=cur.toList.take (i*6)++(cs++((cur.toList.drop (i*6)).take ((n-i)*6)++cur.toList.drop ((n+1)*6))):=by
  have:=ztl cur.toList cs i n c 6 J.out hi x I
  rw [K,E,G,J.out]
  rw [this]
  simp only [List.append_assoc]
 rw [d] at M
 have Aw:=Z9 N
 have u:=Z9 H
 clear E I Y d N Z H K G T
 have OM:=fun ty dc=>M W1 rfl ty dc
 go_enter Tryz.func101,Tryz.ntmps101
 go_wp2_with (simp only [h])
 go_region_law (refine step_copy_runI rfl _ _ 35 35 rfl _ _ (by simp [Act.eval,Act.put]) (by simp [Act.eval,Act.put]) (L _ _ _) ?_)
 go_wp2_with (at_builtin;refine wpList_copy_runI _ rfl _ _ 35 35 rfl _ _ rfl rfl (M _ rfl _ _) ?_)
 go_ret
 refine ⟨by first|rfl|simp,?_,?_⟩
 · exact setRow_heap W1 g A.toArray _ _ _ Aw.out
 · rw [u.out]
   refine ⟨rfl,rfl,rfl,by simp,fun k hk Cc => ?_⟩
   have V:k≠g:=fun e=>Cc (by rw [e])
   rw [setRow_other _ _ _ _ V,setRow_other _ _ _ _ V]
   rfl
def InsR (base:Nat) (A:Option Addr) (n:Nat) (ys:List Value) (w:World) (e:Ending) (w':World):Prop :=
 ∃ (A':Option Addr) (c':Nat),e = .returned (.slice A' (n+1) c')∧Owns w' base 220 6 A' (n+1) c' ys∧w.grownBy w' (ownB A)∧(ownB A'=ownB A∨∀ g,ownB A'=some g→w.heap.size≤g)
theorem zmv (base n c D:Nat) (A:Option Addr) (xs cs:List Value) (w:World) (hn:n≤100000) (X:base≤w.heap.size) (E:Owns w base 220 6 A n c xs) (H:Blk w D 220 cs.toArray) (N:cs.length=6) (h2:∀ v∈cs,v.oneCell'=true) :
 Calls Tryz.prog 101 #[.slice A n c, .int .i64 n, .slice (some ⟨D,0,none⟩) 1 1] w (InsR base A n (xs++cs) w):=by
 obtain ⟨i,hi,O,M,V⟩:=info_parts zoi
 have h:=E.cap
 have Z:=Owns.capm E
 unfold maxLen at Z
 have b:(n:Int)≤(n:Int):=Int.le_refl _
 have d:(n:Int)≤(c:Int):=by omega
 have f:(0:Int)≤(n:Int):=by omega
 have R:=Z9 E
 have P:=Z9 H
 have I:=Z9 N
 have U:=Z9 h2
 have T:=Z9 hi
 have J:=Z9 O
 have K:=Z9 M
 have L:=Z9 V
 clear E H N h2 hi O M V
 by_cases hq:c=n
 · have Y:n=c:=hq.symm
   clear hq
   subst Y
   go_enter Tryz.func101,Tryz.ntmps101
   go_wp2_with (at_builtin;refine wpList_append_lies w rfl _ _ 35 rfl base 220 i _ 6 56 Tryz.underlying35 T.out J.out K.out L.out rfl (by decide) (.slice A n n) n xs rfl R.out ⟨D,0,none⟩ 1 1 cs rfl (by rw [I.out]) (fun j u F=>by rw [Addr.add_lit];exact (P.out.cell _).trans (by simpa using F)) U.out (by decide) (by unfold maxLen;omega) (by omega) X _ rfl ?_;intro g' cap w' G hg C hlt)
   go_ret
   exact ⟨some ⟨g',0,none⟩,cap,by first|rfl|simp,G,by rw [zbr] at hg;exact hg,by rw [zbr] at C;rcases C with e|e;exact .inl e.symm;exact .inr fun g B=>by injection B with B;rw [← B,e];exact Nat.le_refl _⟩
 · go_enter Tryz.func101,Tryz.ntmps101
   go_wp2_with (at_builtin;refine wpList_append_lies w rfl _ _ 35 rfl base 220 i _ 6 56 Tryz.underlying35 T.out J.out K.out L.out rfl (by decide) (.slice A n c) n xs rfl R.out ⟨D,0,none⟩ 1 1 cs rfl (by rw [I.out]) (fun j u F=>by rw [Addr.add_lit];exact (P.out.cell _).trans (by simpa using F)) U.out (by decide) (by unfold maxLen;omega) (by omega) X _ rfl ?_;intro g' cap w' G hg C hlt)
   go_ret
   exact ⟨some ⟨g',0,none⟩,cap,by first|rfl|simp,G,by rw [zbr] at hg;exact hg,by rw [zbr] at C;rcases C with e|e;exact .inl e.symm;exact .inr fun g B=>by injection B with B;rw [← B,e];exact Nat.le_refl _⟩
theorem zju (g n i B:Nat) (xs cs:List Value) (w:World) (hi:i<n) (hn:n≤100000) (XZ:B<w.heap.size) (NV:g<w.heap.size) (Z:∀ j v,xs[j]? = some v→w.cell? ⟨g,j,none⟩=some v) (E:xs.length=n*6) (x:Blk w B 220 cs.toArray) (F:cs.length=6) (h1:∀ v∈xs,v.oneCell'=true) (h2:∀ v∈cs,v.oneCell'=true) :
 Calls Tryz.prog 101 #[.slice (some ⟨g,0,none⟩) n n, .int .i64 i, .slice (some ⟨B,0,none⟩) 1 1] w fun e w' => ∃ G:Nat,n+1≤G∧G≤maxLen∧e = .returned (.slice (some ⟨w.heap.size,0,none⟩) (n+1) G)∧(∃ row:List Value,row.length=G*6∧row.take ((n+1)*6)=xs.take (i*6)++(cs++xs.drop (i*6))∧Blk w' w.heap.size 220 row.toArray)∧w.grownBy w' none:=by
 obtain ⟨u,Ct,Ia,Nb,b⟩:=info_parts zoi
 have Cl:¬((i:Int)=(n:Int)):=by omega
 have Sn:IntKind.i64.wrap ((i:Int)+1)=(i:Int)+1:=zaz _ (by omega) (by omega)
 have Ua:IntKind.i64.wrap ((n:Int)+1)=(n:Int)+1:=zaz _ (by omega) (by omega)
 have xE:IntKind.i64.wrap ((n:Int)+1-(i:Int))=(n:Int)+1-(i:Int):=zaz _ (by omega) (by omega)
 have Ez:i≤n:=by omega
 have Nz:(0:Int)≤(i:Int):=by omega
 have Ab:(0:Int)≤(i:Int)+1:=by omega
 have tI:((i:Int)+1).toNat=i+1:=by omega
 have Ad:¬(n=i):=by omega
 have Aq:(i:Int)≤(n:Int):=by omega
 have Pf:(n:Int)<(n:Int)+1:=by omega
 have d:(Tryz.prog.info? 220).map (·.size)=some 6:=by kernel_rfl
 have NQ:(n:Int)+1-(i:Int)=((n+1-i:Nat):Int):=by omega
 have Y:i+(n+1-i)=n+1:=by omega
 have t:(Builtin.firstCells u.size i (.slice (some ⟨g,0,none⟩) i n)).run Tryz.prog w.drew = .ok (xs.take (i*6)).toArray w.drew:=by
  rw [Nb]
  exact run_firstCells_some w.drew 6 i ⟨g,0,none⟩ i n (xs.take (i*6)) (by rw [List.length_take,E];omega) (fun j v C=>by
   rw [Addr.add_lit,Nat.zero_add]
   rw [List.getElem?_take] at C
   split at C
   · exact Z j v C
   · cases C)
 have V:∀ ty,(Builtin.append_ #[35,3] ty #[.slice (some ⟨g,0,none⟩) i n, .int .i64 ((n:Int)+1-(i:Int))]).run Tryz.prog w = .ok (.slice (some ⟨w.heap.size,0,none⟩) (n+1) (grownCap w (n+1) n 220)) (w.drew.alloc (.cells ((xs.take (i*6)).toArray++Builtin.zeroCells (Value.agg #[.int .i64 0, .int .i64 0, .int .i64 0, .bool false, .int .u8 0, .slice none 0 0]).cells (n+1-i)++Builtin.zeroCells (Value.agg #[.int .i64 0, .int .i64 0, .int .i64 0, .bool false, .int .u8 0, .slice none 0 0]).cells (grownCap w (n+1) n 220-(n+1))) 220)):=fun ty=>by
  have h:=Lib.run_append_grow_zeros w 35 3 ty 220 u _ .i64 .i64 Tryz.underlying35 Tryz.underlying3 Ct Ia (some ⟨g,0,none⟩) i n (xs.take (i*6)) t (n+1-i) (by omega) (by omega) (by omega) (by omega) (by rw [b];omega) (by rw [b,Y];exact growslice_fits (by omega) (by omega))
  rw [Y] at h
  rw [NQ]
  exact h
 obtain ⟨G,M⟩:=nm9 (grownCap w (n+1) n 220)
 have z:n+1≤G:=by rw [M];exact grownCap_ge w _ _ _
 have L:G≤maxLen:=by rw [M];exact grownCap_le_maxLen w (n+1) n _ (by unfold maxLen;omega)
 obtain ⟨ROW,O⟩:∃ ROW:Array Value,ROW=(xs.take (i*6)).toArray++Builtin.zeroCells (Value.agg #[.int .i64 0, .int .i64 0, .int .i64 0, .bool false, .int .u8 0, .slice none 0 0]).cells (n+1-i)++Builtin.zeroCells (Value.agg #[.int .i64 0, .int .i64 0, .int .i64 0, .bool false, .int .u8 0, .slice none 0 0]).cells (G-(n+1)):=⟨_,rfl⟩
 rw [← M,← O] at V
 have f:ROW.size=G*6:=by
  rw [O]
  simp [Builtin.zeroCells,Value.cells,E]
  omega
 have Q:ROW.toList.take (i*6)=xs.take (i*6):=by
  rw [O]
  simp only [Array.toList_append,List.append_assoc]
  rw [List.take_append_of_le_length (by simp [E];omega)]
  rw [List.take_take,Nat.min_self]
 obtain ⟨W1,I⟩:=nm9 (w.drew.alloc (.cells ROW 220))
 have T:Blk W1 w.heap.size 220 ROW:=by rw [I];exact Blk.new w.drew _ _
 have a:Blk W1 B 220 cs.toArray:=by rw [I];exact (Below.heap_alloc w.drew _ B XZ).trans x
 have o:∀ j v,xs[j]? = some v→W1.cell? ⟨g,j,none⟩=some v:=fun j v h=>by rw [I];exact (World.cell?_alloc_lt w.drew _ ⟨g,j,none⟩ NV).trans (Z j v h)
 rw [← I] at V
 have Ao:B≠w.heap.size:=by omega
 have Qi:g≠w.heap.size:=by omega
 obtain ⟨A,R⟩:∃ A:List Value,A=ROW.toList.take (i*6)++cs++ROW.toList.drop (i*6+cs.length):=⟨_,rfl⟩
 have c:A.length=G*6:=by rw [R];simp only [List.length_append,List.length_take,List.length_drop,Array.length_toList,f,F];omega
 have AO:∀ (W:World),W.heap=W1.heap→∀ ty dc,(Builtin.copy_ #[35,35] ty #[.slice (some ⟨w.heap.size,i*6,none⟩) (n+1-i) dc, .slice (some ⟨B,0,none⟩) 1 1]).run Tryz.prog W = .ok (goInt (Nat.min 1 (n+1-i))) (W.setRow w.heap.size A.toArray):=fun W J ty dc=>by
  have X:Blk W w.heap.size 220 ROW:=by unfold Blk;rw [J];exact T
  have CH:Blk W B 220 cs.toArray:=by unfold Blk;rw [J];exact a
  have:=zbs (P:=Tryz.prog) W 35 35 ty 220 6 w.heap.size (i*6) (n+1-i) dc ⟨B,0,none⟩ 1 1 ROW 220 cs Tryz.underlying35 d X (by rw [F,show Nat.min 1 (n+1-i)=1 by simp only [Nat.min_def];split<;>omega])
   (fun j v C=>by rw [Addr.add_lit,CH.cell];simpa using C) (by rw [F,f];omega) h2
  rw [← R] at this
  exact this
 obtain ⟨H,K⟩:∃ H:List Value,H=xs.drop (i*6):=⟨_,rfl⟩
 have N:H.length=(n-i)*6:=by rw [K,List.length_drop,E];omega
 obtain ⟨D,U⟩:∃ D:List Value,D=A.take ((i+1)*6)++H++A.drop ((i+1)*6+H.length):=⟨_,rfl⟩
 have l:D.length=G*6:=by rw [U];simp only [List.length_append,List.length_take,List.length_drop,c,N];omega
 have m:D.take ((n+1)*6)=xs.take (i*6)++(cs++xs.drop (i*6)):=by
  have e1:A.take ((i+1)*6)=xs.take (i*6)++cs:=by
   rw [R,Q]
   have zC:(xs.take (i*6)++cs).length=(i+1)*6:=by simp [E,F];omega
   rw [← zC,List.take_left]
  have ZY:(xs.take (i*6)++(cs++xs.drop (i*6))).length=(n+1)*6:=by simp [E,F];omega
  have Pn:D=(xs.take (i*6)++(cs++xs.drop (i*6)))++A.drop ((i+1)*6+(xs.drop (i*6)).length):=by rw [U,e1,K];simp only [List.append_assoc]
  rw [Pn,← ZY,List.take_left]
 have AN:∀ (W:World),W.heap=(W1.setRow w.heap.size A.toArray).heap→∀ ty dc sc,(Builtin.copy_ #[35,35] ty #[.slice (some ⟨w.heap.size,(i+1)*6,none⟩) (n-i) dc, .slice (some ⟨g,i*6,none⟩) (n-i) sc]).run Tryz.prog W = .ok (goInt (Nat.min (n-i) (n-i))) (W.setRow w.heap.size D.toArray):=fun W J ty dc sc=>by
  have X:Blk W w.heap.size 220 A.toArray:=by unfold Blk;rw [J];exact setRow_heap W1 w.heap.size ROW A.toArray _ _ T
  have D9:∀ j v,xs[j]? = some v→W.cell? ⟨g,j,none⟩=some v:=fun j v h=>by
   have y:=o j v h
   have h8:W.heap[g]? = W1.heap[g]? := by rw [J];exact setRow_other W1 w.heap.size g A.toArray Qi
   simp only [World.cell?] at y ⊢
   rw [h8];exact y
  have:=zbs (P:=Tryz.prog) W 35 35 ty 220 6 w.heap.size ((i+1)*6) (n-i) dc ⟨g,i*6,none⟩ (n-i) sc A.toArray 220 H Tryz.underlying35 d X (by rw [N,show Nat.min (n-i) (n-i)=n-i by simp])
   (fun j v C=>by rw [Addr.add_lit];exact D9 _ v (by rw [K,List.getElem?_drop] at C;exact C)) (by rw [N];simp [c];omega) (fun v hv=>h1 v (by rw [K] at hv;exact List.mem_of_mem_drop hv))
  rw [List.toList_toArray] at this
  rw [← U] at this
  exact this
 have pD:=fun ty dc sc=>AN (W1.setRow w.heap.size A.toArray).drew rfl ty dc sc
 have Aw:=Z9 T
 have Tt:=Z9 I
 have FN:=Z9 l
 have FM:=Z9 m
 have Y7:=Z9 z
 have Y8:=Z9 L
 have hGi:¬(G=i):=by omega
 have G1:¬(G=i+1):=by omega
 have G2:G≤9223372036854775807:=by unfold maxLen at L;exact L
 have G0:(n:Int)+1≤(G:Int):=by omega
 clear t NQ Y M z L O f Q T a o R c K N U l m I Ct Ia Nb b d Z E x F h1 h2
 go_enter Tryz.func101,Tryz.ntmps101
 go_wp2_with (first
  | (at_builtin;refine Lib.wpList_append_run _ rfl _ _ _ _ rfl _ _ rfl rfl _ _ (V _) ?_)
  | (at_builtin;refine wpList_copy_runI _ rfl _ _ 35 35 rfl _ _ rfl rfl (AO _ rfl _ _) ?_))
 go_region_law (refine step_copy_runI rfl _ _ 35 35 rfl _ _ (by simp [Act.eval,Act.put]) (by simp [Act.eval,Act.put]) (pD _ _ _) ?_)
 go_wp2_with fail
 go_ret
 refine ⟨G,Y7.out,Y8.out,by first|rfl|simp,⟨D,FN.out,FM.out,?_⟩,?_⟩
 · exact setRow_heap _ w.heap.size A.toArray D.toArray _ _ (setRow_heap W1 w.heap.size ROW A.toArray _ _ Aw.out)
 · rw [Tt.out]
   refine ⟨rfl,rfl,rfl,by simp,fun k hk Cc => ?_⟩
   have p:k≠w.heap.size:=by omega
   exact (setRow_other _ _ _ _ p).trans ((setRow_other _ _ _ _ p).trans (Below.heap_alloc w.drew _ k hk))
end
section
open Go.RowKit
theorem zcj {α : Type} {row : α → List Value} {k:Nat} (hr:∀ a,(row a).length=k):∀ (l:List α) (i:Nat),(l.take i).flatMap row=(l.flatMap row).take (i*k)∧(l.drop i).flatMap row=(l.flatMap row).drop (i*k)
 | [],i=>by simp
 | a::l,0=>by simp
 | a :: l, i + 1 => by
   obtain ⟨h1,h2⟩:=zcj hr l i
   have e:(i+1)*k=(row a).length+i*k:=by rw [hr,Nat.add_mul];omega
   simp only [List.take_succ_cons,List.drop_succ_cons,List.flatMap_cons,h1,h2,e]
   rw [List.take_length_add_append,List.drop_length_add_append]
   exact ⟨rfl,rfl⟩
theorem zcf {α : Type} {row : α → List Value} {k:Nat} (hr:∀ a,(row a).length=k):∀ l:List α, (l.flatMap row).length=l.length*k
 | []=>by simp
 | a::l=>by rw [List.flatMap_cons,List.length_append,hr,zcf hr l,List.length_cons,Nat.add_mul];omega
theorem row_len (a:TW):a.row.length=6:=rfl
theorem zhh (a:TW):∀ v∈a.row,v.oneCell'=true:=by
 intro v hv
 simp [TW.row] at hv
 rcases hv with rfl|rfl|rfl|rfl|rfl|rfl<;>rfl
theorem zej (l:List TW):∀ v∈l.flatMap TW.row,v.oneCell'=true:=by
 intro v hv
 obtain ⟨a,_,hv⟩:=List.mem_flatMap.1 hv
 exact zhh a v hv
def QInsR (base n:Nat) (l':List TW) (w:World) (e:Ending) (w':World):Prop :=
 ∃ (A':Option Addr) (c':Nat),e = .returned (.slice A' (n+1) c')∧QOwn w' base A' (n+1) c' l'∧Below base w w'
theorem QOwn.ins {a:TW} (h:QOwn w base A n c l) (N:base≤w.heap.size) (hi:i≤n)
 (H:Owns w' base 220 6 A' (n+1) c' ((l.take i++a::l.drop i).flatMap TW.row)) (hg:w.grownBy w' (ownB A)) (M:ownB A'=ownB A∨∀ g,ownB A'=some g→w.heap.size≤g)
 (J:IntsAt w w.heap.size .u8 a.B a.w.m.pl) (K:0<a.w.m.pl.length→∀ b off,a.B=some ⟨b,off,none⟩→some b≠ownB A) (I:0<a.w.m.pl.length→∀ b off,a.B=some ⟨b,off,none⟩→base≤b) (L:a.w.m.pl.length≤a.c) :
 QOwn w' base A' (n+1) c' (l.take i++a::l.drop i)∧Below base w w':=by
 have hl:=h.len
 have R:=hg.size
 have G:∀ x,x∈l.take i++a::l.drop i→x∈l∨x=a:=by
  intro x hx
  rcases List.mem_append.1 hx with hx|hx
  · exact .inl (List.mem_of_mem_take hx)
  · rcases List.mem_cons.1 hx with rfl|hx
    · exact .inr rfl
    · exact .inl (List.mem_of_mem_drop hx)
 have F:∀ x,x∈l.take i++a::l.drop i→IntsAt w w.heap.size .u8 x.B x.w.m.pl∧(0<x.w.m.pl.length→∀ b off,x.B=some ⟨b,off,none⟩→some b≠ownB A)∧(0<x.w.m.pl.length→∀ b off,x.B=some ⟨b,off,none⟩→base≤b):=by
  intro x hx
  rcases G x hx with hx|rfl
  · exact ⟨h.pay x hx,h.far x hx,h.new x hx⟩
  · exact ⟨J,K,I⟩
 refine ⟨⟨?_,H,fun x hx h0 => ?_,fun x hx h0 b off e => ?_,fun x hx=>(F x hx).2.2,fun x hx=>(G x hx).elim (fun C=>h.cap x C) (fun C=>C ▸ L)⟩,?_⟩
 · simp [hl];omega
 · obtain ⟨p,f,_⟩:=F x hx
   obtain ⟨b,off,e,hlt,hc⟩:=p h0
   exact ⟨b,off,e,by omega,fun k hk=>hg.cell (hc k hk) (f h0 b off e)⟩
 · obtain ⟨p,f,_⟩:=F x hx
   rcases M with E|E
   · rw [E];exact f h0 b off e
   · intro he
     have C:=E b he.symm
     obtain ⟨P,T,D,hlt,_⟩:=p h0
     rw [e] at D
     injection D with D
     injection D with O _
     omega
 · exact (Below.refl base w).grown hg N (fun g e=>(h.own.block g e).1)
theorem zmw (base n c i C:Nat) (A:Option Addr) (l:List TW) (a:TW) (w:World) (hn:n≤100000) (F:base≤w.heap.size) (hQ:QOwn w base A n c l) (hi:i≤n) (H:Blk w C 220 a.row.toArray) (x:some C≠ownB A)
 (K:IntsAt w w.heap.size .u8 a.B a.w.m.pl) (L:0<a.w.m.pl.length→∀ b off,a.B=some ⟨b,off,none⟩→some b≠ownB A) (J:0<a.w.m.pl.length→∀ b off,a.B=some ⟨b,off,none⟩→base≤b) (M:a.w.m.pl.length≤a.c) :
 Calls Tryz.prog 101 #[.slice A n c, .int .i64 i, .slice (some ⟨C,0,none⟩) 1 1] w (QInsR base n (l.take i++a::l.drop i) w):=by
 have U:(l.flatMap TW.row).length=n*6:=by rw [zcf row_len,hQ.len]
 have I:(l.take i++a::l.drop i).flatMap TW.row=(l.flatMap TW.row).take (i*6)++(a.row++(l.flatMap TW.row).drop (i*6)):=by
  rw [List.flatMap_append,List.flatMap_cons,(zcj (k:=6) row_len l i).1,(zcj (k:=6) row_len l i).2]
 by_cases Ez:i=n
 · subst Ez
   refine (zmv base i c C A (l.flatMap TW.row) a.row w hn F hQ.own H rfl (zhh a)).mono ?_
   rintro e w' ⟨A',c',rfl,E,hg,Ar⟩
   have h:=hQ.ins (a:=a) (i:=i) F hi (by rw [I,List.take_of_length_le (by omega),List.drop_of_length_le (by omega),List.append_nil];exact E) hg Ar K L J M
   exact ⟨A',c',rfl,h.1,h.2⟩
 obtain ⟨g,o,z,hlt⟩:=hQ.own.form (by omega)
 subst o
 obtain ⟨aR,R⟩:=hQ.own
 obtain ⟨cur,d,nV,V,X,N⟩:∃ cur:Array Value,w.heap[g]? = some (.cells cur 220 (0,0))∧n≤c∧c≤maxLen∧cur.size=c*6∧cur.toList.take (n*6)=l.flatMap TW.row:=by
  rcases R with ⟨hv,_⟩|⟨g',cap,cur,hv,_,h1,h2,h3,h4,h5⟩
  · injection hv with h1;cases h1
  · injection hv with D P p
    injection D with D
    injection D with D _
    subst D p
    exact ⟨cur,h1,h2,h3,h4,h5⟩
 clear R
 have y:C≠g:=fun e=>x (by rw [e];rfl)
 by_cases T:n+1≤c
 · refine (zjt g n c i C cur a.row w (by omega) T V y d H rfl X (by rw [N];exact zej l) (zhh a)).mono ?_
   rintro e w' ⟨rfl,hB,hg⟩
   have Y:cur.toList.length=c*6:=by simpa using X
   have W:(cur.toList.drop (i*6)).take ((n-i)*6)=(l.flatMap TW.row).drop (i*6):=by rw [← N,List.drop_take,show (n-i)*6=n*6-i*6 by omega]
   have u:cur.toList.take (i*6)=(l.flatMap TW.row).take (i*6):=by rw [← N,List.take_take,Nat.min_eq_left (by omega)]
   have E:Owns w' base 220 6 (some ⟨g,0,none⟩) (n+1) c ((l.take i++a::l.drop i).flatMap TW.row):=by
    refine ⟨by rw [zcf row_len];simp [hQ.len];omega, .inr ⟨g,c,_,rfl,z,hB,T,V,?_,?_⟩⟩
    · simp only [List.size_toArray,List.length_append,List.length_take,List.length_drop,Y,TW.row,List.length_cons,List.length_nil]
      omega
    · rw [I,W,u]
      show List.take _ (_++(a.row++(_++_)))=_
      have D:(l.flatMap TW.row).take (i*6)++(a.row++((l.flatMap TW.row).drop (i*6)++cur.toList.drop ((n+1)*6)))=((l.flatMap TW.row).take (i*6)++(a.row++(l.flatMap TW.row).drop (i*6)))++cur.toList.drop ((n+1)*6):=by simp only [List.append_assoc]
      have P:((l.flatMap TW.row).take (i*6)++(a.row++(l.flatMap TW.row).drop (i*6))).length=(n+1)*6:=by
       simp only [List.length_append,List.length_take,List.length_drop,U,TW.row,List.length_cons,List.length_nil];omega
      rw [D,← P,List.take_left]
   have h:=hQ.ins (a:=a) (i:=i) F hi E hg (.inl rfl) K L J M
   exact ⟨_,c,rfl,h.1,h.2⟩
 · have AP:c=n:=by omega
   subst AP
   refine (zju g c i C (l.flatMap TW.row) a.row w (by omega) hn H.lt hlt (fun j v f => ?_) U H rfl (zej l) (zhh a)).mono ?_
   · have O:=World.ownsRow.cells (g:=g) hQ.own rfl j v f
     rw [Addr.add_lit,Nat.zero_add] at O
     exact O
   · rintro e w' ⟨G,G4,G3,rfl,⟨row,Z,Q,t⟩,hg⟩
     have E:Owns w' base 220 6 (some ⟨w.heap.size,0,none⟩) (c+1) G ((l.take i++a::l.drop i).flatMap TW.row):=by
      refine ⟨by rw [zcf row_len];simp [hQ.len];omega, .inr ⟨w.heap.size,G,row.toArray,rfl,F,t,G4,G3,by simpa using Z,?_⟩⟩
      rw [I]
      exact Q
     have Fl:w.grownBy w' (ownB (some ⟨g,0,none⟩)):=⟨hg.os,hg.tape,hg.output,hg.size,fun k hk _=>hg.block k hk (by simp)⟩
     have h:=hQ.ins (a:=a) (i:=i) F hi E Fl (.inr fun g' e=>by injection e with e;rw [← e];exact Nat.le_refl _) K L J M
     exact ⟨_,G,rfl,h.1,h.2⟩
end
section
attribute [local go_sem ↓] zab zac
attribute [local go_sem] zaa zad
open Go.RowKit
def MeasR (s:Jb.Jt) (m:Jb.Md) (A:Option Addr) (n c:Nat) (w:World) (e:Ending) (w':World):Prop:=e = .returned (JV (Jb.meas s m) A n c)∧Below w.heap.size w w'
def MeasQ (T:Jb.Jt) (A:Option Addr) (n c:Nat) (w:World) (e:Ending) (w':World):Prop:=e = .returned (JV T A n c)∧Below w.heap.size w w'
structure MS (w W:World) (s:Jb.Jt) (A:Option Addr) (n c:Nat) (m:Jb.Md) (MA:Option Addr) (mn mc:Nat):Prop where
 bs:Blk W w.heap.size 37 (JL s A n c).toArray
 bm:Blk W (w.heap.size+1) 183 (ML m MA mn mc).toArray
 br:Blk W (w.heap.size+1+1) 37 (JL Jb.Jt.none none 0 0).toArray
 u:Bel w W
theorem MS.drewN {s:Jb.Jt} (h:MS w W s A n c m MA mn mc) (k:Nat):MS w (W.drewN k) s A n c m MA mn mc:=⟨h.bs.drewN k,h.bm.drewN k,h.br.drewN k,Bel.drewN h.u k⟩
theorem MS.put {s:Jb.Jt} (h:MS w W s A n c m MA mn mc) (i:Nat) (v:Value) (s':Jb.Jt) (B:(JL s A n c).set i v=JL s' A n c:=by rfl):MS w (W.setCell ⟨w.heap.size,i,none⟩ v) s' A n c m MA mn mc:=by
 refine ⟨?_,h.bm.far (by simp) _,h.br.far (by simp;omega) _,zah h.u (Nat.le_refl _) _⟩
 have:=h.bs.set_ i v
 rw [← B]
 simpa using this
def endT (s:Jb.Jt) (m:Jb.Md):Jb.Jt := { s with on:=true,high:=max s.high m.sq }
noncomputable def ms7_code:Code:=((Tryz.f96.body.bind (fromReg 7)).getD .skip)
noncomputable def ms8_code:Code:=((Tryz.f96.body.bind (fromReg 8)).getD .skip)
noncomputable def ms14_code:Code:=((Tryz.f96.body.bind (fromReg 14)).getD .skip)
noncomputable def ms9_code:Code:=((Tryz.f96.body.bind (findT 9)).getD .skip)
theorem zjv {s:Jb.Jt} (S:MS w W s A n c m MA mn mc) (H:T=endT s m) (a:Act) (G:Fr 93 [(2, .pointer (some ⟨w.heap.size,0,none⟩)),(3, .pointer (some ⟨w.heap.size+1,0,none⟩)),(4, .pointer (some ⟨w.heap.size+1+1,0,none⟩))] a):firstWp Tryz.prog ms14_code (bodyPost Tryz.prog Tryz.f96 (MeasQ T A n c w)) a W:=by
 obtain ⟨M,rfl,E,D,C,_⟩:=G
 simp only [rl9];rw [E,D,C]
 clear E D C
 refine zas ?_
 intro _ _
 have b3:=S.bs.at 3 (.bool s.on) rfl
 have I:=S.bs.at 6 (.int .i64 s.high) rfl
 have F:=S.bm.at 0 (.int .i64 m.sq) rfl
 have K:=S.bs.frozen
 go_upto_region 16 with fail
 clear b3 I F K
 have B:=(S.put 3 (.bool true) { s with on:=true }).put 6 (.int .i64 (max s.high m.sq)) (endT s m)
 generalize (W.setCell _ _).setCell _ _=W2 at B ⊢
 go_wp2_with (first|(refine zaf rfl 37 (.tmp 2) rfl (w.heap.size) 0 rfl 37 (JL (endT s m) A n c) B.bs 14 _ Tryz.underlying37 zar (show 0+14≤14 by decide) (JL (endT s m) A n c).toArray (by rfl) rfl ?_)|(refine zag rfl 37 (.tmp 4) (.tmp 92) rfl (w.heap.size+1+1) 0 rfl 37 (JL Jb.Jt.none none 0 0) B.br (JL (endT s m) A n c) rfl zar (show 0+14≤14 by decide) rfl (JL (endT s m) A n c) rfl ?_;intro WB L J)|fail)
 exact bodyPost_ret (v:=JV (endT s m) A n c) (zel Tryz.results96 rfl (run_loadVar_row (P:=Tryz.prog) _ _ _ _ _ _ _ L Tryz.underlying37 rfl (by kernel_rfl))) rfl ⟨by rw [H],J.bel B.u (by omega)⟩
theorem zqc {s:Jb.Jt} {K:Act→World→Prop} {Q:Exit→Act→World→Prop} (S:MS w W s A n c m MA mn mc) (n0:0≤s.now) (n1:s.now≤281474976710656) (sp0:0≤s.spread) (sp1:s.spread≤80000000000000000) (c0:1≤s.least) (c1:s.least≤s.most) (c2:s.most≤1000) (hn:l.length=n) (hq:l.map TW.w=s.q) (hl:n≤200) (L:Wts w w.heap.size A l) (T:∀ a∈l,0≤a.w.at_∧a.w.at_≤562949953421312) (G:∀ (W:World) (a:Act),MS w W ({ s with first:=m.ti,zero:=(Jb.lastAt (s.now+min (s.least+s.spread / 4) s.most) s.q) } : Jb.Jt) A n c m MA mn mc→Fr 93 [(2, .pointer (some ⟨w.heap.size,0,none⟩)),(3, .pointer (some ⟨w.heap.size+1,0,none⟩)),(4, .pointer (some ⟨w.heap.size+1+1,0,none⟩))] a→K a W) (a:Act) (C:Fr 93 [(2, .pointer (some ⟨w.heap.size,0,none⟩)),(3, .pointer (some ⟨w.heap.size+1,0,none⟩)),(4, .pointer (some ⟨w.heap.size+1+1,0,none⟩))] a):firstWp Tryz.prog ms9_code (Exit.then K Q) a W:=by
 obtain ⟨p,rfl,O,N,M,_⟩:=C
 simp only [rl9];rw [O,N,M]
 clear O N M
 obtain ⟨zs,H⟩:=nm9 (s.now+min (s.least+s.spread / 4) s.most)
 have Y:0≤zs:=by omega
 have X:zs≤300000000000000:=by omega
 rw [← H] at G
 have i:=Z9 H
 have E:=Z9 G
 have V:=Z9 L
 have R:=Z9 T
 have F:=Z9 hq
 clear H G L T hq
 refine zas ?_
 intro _ _
 have b0:=S.bs.at 0 (.int .i64 s.least) rfl
 have b1:=S.bs.at 1 (.int .i64 s.most) rfl
 have b2:=S.bs.at 2 (.int .i64 s.now) rfl
 have P:=S.bs.at 4 (.int .i64 s.zero) rfl
 have h:=S.bs.at 5 (.int .i64 s.first) rfl
 have g:=S.bs.at 8 (.int .i64 s.spread) rfl
 have d:=S.bm.at 1 (.int .i64 m.ti) rfl
 have U:=S.bs.frozen
 go_upto_region 11 with fail
 rw [← i.out]
 have B:=(S.put 5 (.int .i64 m.ti) { s with first:=m.ti }).put 4 (.int .i64 zs) { s with first:=m.ti,zero:=zs }
 generalize (W.setCell _ _).setCell _ _=W2 at B ⊢
 clear b0 b1 b2 P h g d U S
 have b10:=B.bs.at 10 (.slice A n c) rfl
 by_cases h0:n=0
 · have D:Jb.lastAt zs s.q=zs:=by unfold Jb.lastAt;rw [if_pos];rw [← F.out,List.length_map,hn,h0]
   rw [D] at E
   clear D
   subst h0
   go_wp2_with fail
   exact E.out _ _ B (Fr.mk rfl ⟨rfl,rfl,rfl,trivial⟩)
 obtain ⟨k,rfl⟩:∃ k,n=k+1:=⟨n-1,by omega⟩
 obtain ⟨a,C⟩:∃ a,l[k]? = some a:=⟨_,List.getElem?_eq_getElem (by omega)⟩
 have J:=B.u
 obtain ⟨x,t,rfl,Bb,f, -⟩:=zes (V.out.later J).1 C
 obtain ⟨b,Z⟩:=R.out a (List.mem_of_getElem? C)
 have D:Jb.lastAt zs s.q=max zs (a.w.at_+1):=by
  unfold Jb.lastAt
  rw [if_neg (by rw [← F.out,List.length_map,hn];omega),← F.out,List.length_map,hn]
  simp [List.getD_eq_getElem?_getD,C]
 rw [D] at E
 obtain ⟨at0,I⟩:=nm9 a.w.at_
 rw [← I] at f b Z E
 clear D I C J F R V
 have o:IntKind.i64.wrap (at0+1)=at0+1:=zaz _ (by omega) (by omega)
 have P:=B.bs.at 4 (.int .i64 zs) rfl
 have U:=B.bs.frozen
 have y:IntKind.i64.wrap (((k:Int)+1)-1)=(k:Int):=by rw [zaz _ (by omega) (by omega)];omega
 have j:((k:Int)+1)-1=(k:Int):=by omega
 have v:(0:Int)≤(k:Int):=by omega
 have Be:(k:Int)<((k:Int)+1):=by omega
 have z:(0:Int)<((k:Int)+1):=by omega
 clear hn h0
 go_wp2_with fail
 go_region
 all_goals
  go_wp2_with fail
  exact E.out _ _ ((B.drewN _).put 4 (.int .i64 (max zs (at0+1))) { s with first:=m.ti,zero:=max zs (at0+1) }) (Fr.mk rfl ⟨rfl,rfl,rfl,trivial⟩)
def begM (s:Jb.Jt) (m:Jb.Md):Jb.Jt:=if s.on=false∨(m.mrk=true∧s.high<m.sq) then { s with first:=m.ti,zero:=Jb.lastAt (s.now+min (s.least+s.spread / 4) s.most) s.q } else s
theorem zyg {s:Jb.Jt} (S:MS w W s A n c m MA mn mc) (n0:0≤s.now) (n1:s.now≤281474976710656) (sp0:0≤s.spread) (sp1:s.spread≤80000000000000000) (c0:1≤s.least) (c1:s.least≤s.most) (c2:s.most≤1000) (hn:l.length=n) (hq:l.map TW.w=s.q) (hl:n≤200) (G:Wts w w.heap.size A l) (H:∀ a∈l,0≤a.w.at_∧a.w.at_≤562949953421312) (P:T=endT (begM s m) m) (a:Act) (F:Fr 93 [(2, .pointer (some ⟨w.heap.size,0,none⟩)),(3, .pointer (some ⟨w.heap.size+1,0,none⟩)),(4, .pointer (some ⟨w.heap.size+1+1,0,none⟩))] a):firstWp Tryz.prog ms8_code (bodyPost Tryz.prog Tryz.f96 (MeasQ T A n c w)) a W:=by
 obtain ⟨b,rfl,V,U,R,_⟩:=F
 simp only [rl9];rw [V,U,R]
 clear V U R
 refine zbd ?_
 intro K X L f
 obtain ⟨on,M⟩:=nm9 s.on
 obtain ⟨mk,O⟩:=nm9 m.mrk
 have b3:W.cell? ⟨w.heap.size,3,none⟩=some (.bool on):=by rw [M];exact S.bs.at 3 _ rfl
 have m2:W.cell? ⟨w.heap.size+1,2,none⟩=some (.bool mk):=by rw [O];exact S.bm.at 2 _ rfl
 have g:=S.bs.at 6 (.int .i64 s.high) rfl
 have d:=S.bm.at 0 (.int .i64 m.sq) rfl
 have D:=Z9 P
 have E:=Z9 (And.intro M O)
 have I:=Z9 hq
 have J:=Z9 hn
 clear P M O hq hn
 by_cases B:on=false∨(mk=true∧s.high<m.sq)
 · have C:begM s m=({ s with first:=m.ti,zero:=(Jb.lastAt (s.now+min (s.least+s.spread / 4) s.most) s.q) } : Jb.Jt):=by unfold begM;rw [← E.out.1,← E.out.2,if_pos B]
   rw [C] at D
   clear C
   have N:=Z9 fun (W:World) (a:Act) (Y:MS w W ({ s with first:=m.ti,zero:=(Jb.lastAt (s.now+min (s.least+s.spread / 4) s.most) s.q) } : Jb.Jt) A n c m MA mn mc) (F:Fr 93 [(2, .pointer (some ⟨w.heap.size,0,none⟩)),(3, .pointer (some ⟨w.heap.size+1,0,none⟩)),(4, .pointer (some ⟨w.heap.size+1+1,0,none⟩))] a)=>X a W (zim (zjv Y D.out a F))
   rcases B with rfl|⟨rfl,Z⟩
   · go_upto_region 9 with fail
     refine zao (by assumption) ?_
     exact zqc S n0 n1 sp0 sp1 c0 c1 c2 J.out I.out hl G H N.out _ (Fr.mk rfl ⟨rfl,rfl,rfl,trivial⟩)
   · cases on
     · go_upto_region 9 with fail
       refine zao (by assumption) ?_
       exact zqc S n0 n1 sp0 sp1 c0 c1 c2 J.out I.out hl G H N.out _ (Fr.mk rfl ⟨rfl,rfl,rfl,trivial⟩)
     · go_upto_region 9 with fail
       refine zao (by assumption) ?_
       exact zqc S n0 n1 sp0 sp1 c0 c1 c2 J.out I.out hl G H N.out _ (Fr.mk rfl ⟨rfl,rfl,rfl,trivial⟩)
 have C:begM s m=s:=by unfold begM;rw [← E.out.1,← E.out.2,if_neg B]
 rw [C] at D
 clear C
 cases on
 · exact absurd (Or.inl rfl) B
 cases mk
 · clear B
   go_upto_region 14 with fail
   refine zao (by assumption) ?_
   exact zjv S D.out _ (Fr.mk rfl ⟨rfl,rfl,rfl,trivial⟩)
 · have Z:¬s.high<m.sq:=fun h=>B (Or.inr ⟨rfl,h⟩)
   clear B
   go_upto_region 14 with fail
   refine zao (by assumption) ?_
   exact zjv S D.out _ (Fr.mk rfl ⟨rfl,rfl,rfl,trivial⟩)
theorem zqd {s:Jb.Jt} (S:MS w W s A n c m MA mn mc) (n0:0≤s.now) (n1:s.now≤281474976710656) (sp0:0≤s.spread) (sp1:s.spread≤80000000000000000) (c0:1≤s.least) (c1:s.least≤s.most) (c2:s.most≤1000) (hn:l.length=n) (hq:l.map TW.w=s.q) (hl:n≤200) (I:Wts w w.heap.size A l) (K:∀ a∈l,0≤a.w.at_∧a.w.at_≤562949953421312) (H:T=endT (begM { s with trans:=TT } m) m) (a:Act) (G:Fr 93 [(2, .pointer (some ⟨w.heap.size,0,none⟩)),(3, .pointer (some ⟨w.heap.size+1,0,none⟩)),(4, .pointer (some ⟨w.heap.size+1+1,0,none⟩)),(5, .int .i64 TT)] a):firstWp Tryz.prog ms7_code (bodyPost Tryz.prog Tryz.f96 (MeasQ T A n c w)) a W:=by
 obtain ⟨M,rfl,E,D,C,B,_⟩:=G
 simp only [rl9];rw [E,D,C,B]
 clear E D C B
 refine zas ?_
 intro _ _
 have J:=S.bs.at 9 (.int .i64 s.trans) rfl
 have L:=S.bs.frozen
 go_upto_region 8 with fail
 clear J L
 have F:=S.put 9 (.int .i64 TT) { s with trans:=TT }
 generalize W.setCell _ _=W2 at F ⊢
 refine zba (by assumption) (by assumption) ?_
 exact zyg F n0 n1 sp0 sp1 c0 c1 c2 hn hq hl I K H _ (Fr.mk rfl ⟨rfl,rfl,rfl,trivial⟩)
theorem ztm (s:Jb.Jt) (m:Jb.Md):Jb.meas s m=endT (begM { s with spread:=if s.on then s.spread+max (s.now-m.ti / 8-s.trans) (s.trans-(s.now-m.ti / 8))-(s.spread+8) / 16 else s.spread,trans:=s.now-m.ti / 8 } m) m:=by
 unfold Jb.meas begM endT
 dsimp only
 by_cases hb:s.on=false∨(m.mrk=true∧s.high<m.sq)
 · simp only [if_pos hb]
 · simp only [if_neg hb]
theorem zqe (s:Jb.Jt) (A:Option Addr) (l:List TW) (n c:Nat) (m:Jb.Md) (MA:Option Addr) (mn mc:Nat) (w:World) (hn:l.length=n) (hq:l.map TW.w=s.q) (hl:n≤200) (F:Wts w w.heap.size A l) (n0:0≤s.now) (n1:s.now≤281474976710656) (t0 : -281474976710656≤m.ti) (t1:m.ti≤281474976710656) (f : -1125899906842624≤s.trans) (d:s.trans≤1125899906842624) (sp0:0≤s.spread) (sp1:s.spread≤72057594037927936) (c0:1≤s.least) (c1:s.least≤s.most) (c2:s.most≤1000) (G:∀ a∈l,0≤a.w.at_∧a.w.at_≤562949953421312):Calls Tryz.prog 96 #[.agg #[.int .i64 s.least, .int .i64 s.most, .int .i64 s.now, .bool s.on, .int .i64 s.zero, .int .i64 s.first, .int .i64 s.high, .int .i64 s.done, .int .i64 s.spread, .int .i64 s.trans, .slice A n c, .int .i64 s.late, .int .i64 s.twice, .int .i64 s.played], .agg #[.int .i64 m.sq, .int .i64 m.ti, .bool m.mrk, .int .u8 m.ty, .slice MA mn mc]] w (MeasR s m A n c w):=by
 have S:MS w (((w.alloc (.cells #[.int .i64 s.least, .int .i64 s.most, .int .i64 s.now, .bool s.on, .int .i64 s.zero, .int .i64 s.first, .int .i64 s.high, .int .i64 s.done, .int .i64 s.spread, .int .i64 s.trans, .slice A n c, .int .i64 s.late, .int .i64 s.twice, .int .i64 s.played] 37)).alloc (.cells #[.int .i64 m.sq, .int .i64 m.ti, .bool m.mrk, .int .u8 m.ty, .slice MA mn mc] 183)).alloc (.cells (JL Jb.Jt.none none 0 0).toArray 37)) s A n c m MA mn mc:=⟨((Blk.new w _ _).push _).push _,(Blk.new1 _ _ _ _).push _,Blk.new2 _ _ _ _ _,(((Bel.refl w).push _).push _).push _⟩
 have B:Jb.meas s m=_:=ztm s m
 obtain ⟨y,N⟩:=nm9 (m.ti / 8)
 have k1:=Z9 fun W=>zfw m.ti W (by omega) (by omega)
 rw [← N] at k1 B
 have V : -35184372088832≤y∧y≤35184372088832:=by omega
 obtain ⟨b,Z⟩:=V
 obtain ⟨TT,P⟩:=nm9 (s.now-y)
 have E:s.now-y=TT:=P.symm
 have O:IntKind.i64.wrap (s.now-y)=TT:=by rw [zaz _ (by omega) (by omega)];exact E
 have o : -1000000000000000≤TT:=by omega
 have j:TT≤1000000000000000:=by omega
 rw [E] at B
 obtain ⟨T,M⟩:=nm9 (Jb.meas s m)
 unfold MeasR
 rw [← M]
 change Calls _ _ _ _ (MeasQ T A n c w)
 rw [← M] at B
 obtain ⟨on,K⟩:=nm9 s.on
 rw [show ∀ (x y:Int),(if s.on=true then x else y)=if on=true then x else y from fun x y=>by rw [K]] at B
 have H:=Z9 B
 have Y:=Z9 K
 have I:=Z9 hq
 have J:=Z9 hn
 clear P N B M K hq hn
 go_enter Tryz.func96,Tryz.ntmps96
 go_upto_region 1 with fail
 change Code.wp _ _ _ _ (((w.alloc (.cells #[.int .i64 s.least, .int .i64 s.most, .int .i64 s.now, .bool s.on, .int .i64 s.zero, .int .i64 s.first, .int .i64 s.high, .int .i64 s.done, .int .i64 s.spread, .int .i64 s.trans, .slice A n c, .int .i64 s.late, .int .i64 s.twice, .int .i64 s.played] 37)).alloc (.cells #[.int .i64 m.sq, .int .i64 m.ti, .bool m.mrk, .int .u8 m.ty, .slice MA mn mc] 183)).alloc (.cells (JL Jb.Jt.none none 0 0).toArray 37))
 generalize ((w.alloc _).alloc _).alloc _=W0 at S ⊢
 have b2:=S.bs.at 2 (.int .i64 s.now) rfl
 have X:=S.bm.at 1 (.int .i64 m.ti) rfl
 go_wp2_with fail
 go_quiet ((go_at_call 128;exact Calls.quiet_of_same ((k1.out _).mono fun _ _ h=>⟨h.1,h.2.symm⟩)))
 try rw [E]
 try rw [O]
 replace S:=S.drewN nq
 generalize W0.drewN nq=W at S ⊢
 clear b2 X k1 E O
 have b3:W.cell? ⟨w.heap.size,3,none⟩=some (.bool on):=by rw [Y.out];exact S.bs.at 3 _ rfl
 cases on
 · go_upto_region 7 with fail
   refine zao (by assumption) ?_
   exact zqd S n0 n1 sp0 (Int.le_trans sp1 (by decide)) c0 c1 c2 J.out I.out hl F G H.out _ (Fr.mk rfl ⟨rfl,rfl,rfl,rfl,trivial⟩)
 have i:=S.bs.at 8 (.int .i64 s.spread) rfl
 have g:=S.bs.at 9 (.int .i64 s.trans) rfl
 have p:=S.bs.frozen
 obtain ⟨sp,L⟩:=nm9 (s.spread+max (TT-s.trans) (s.trans-TT)-(s.spread+8) / 16)
 have q0:0≤sp:=by omega
 have q1:sp≤80000000000000000:=by omega
 have R:Hid (T=endT (begM { s with spread:=sp,trans:=TT } m) m):=Z9 (by rw [H.out,L];rfl)
 clear H
 by_cases hlt:TT<s.trans
 · have D:s.spread+(s.trans-TT-(s.spread+8) / 16)=sp:=by omega
   have U:s.spread+(-(TT-s.trans)-(s.spread+8) / 16)=sp:=by omega
   have hd:TT-s.trans<0:=by omega
   clear L
   have HS:=Z9 (And.intro D U)
   clear D U
   go_upto_region 7 with fail
   first|rw [HS.out.1]|rw [HS.out.2]
   have C:=S.put 8 (.int .i64 sp) { s with spread:=sp }
   generalize W.setCell _ _=W2 at C ⊢
   refine zao (by assumption) ?_
   exact zqd C n0 n1 q0 q1 c0 c1 c2 J.out I.out hl F G R.out _ (Fr.mk rfl ⟨rfl,rfl,rfl,rfl,trivial⟩)
 · have D:s.spread+(TT-s.trans-(s.spread+8) / 16)=sp:=by omega
   have hd:0≤TT-s.trans:=by omega
   clear L
   have HS:=Z9 D
   clear D
   go_upto_region 7 with fail
   rw [HS.out]
   have C:=S.put 8 (.int .i64 sp) { s with spread:=sp }
   generalize W.setCell _ _=W2 at C ⊢
   refine zao (by assumption) ?_
   exact zqd C n0 n1 q0 q1 c0 c1 c2 J.out I.out hl F G R.out _ (Fr.mk rfl ⟨rfl,rfl,rfl,rfl,trivial⟩)
theorem zjw (le B nw:Int) (on:Bool) (ze fi hi dn sp tr:Int) (A:Option Addr) (l:List TW) (n qc:Nat) (la tw pd:Int) (sq ti:Int) (mk:Bool) (ty:Int) (MA:Option Addr) (mn mc:Nat) (w:World) (hn:l.length=n)(hl:n≤200) (E:Wts w w.heap.size A l) (n0:0≤nw) (n1:nw≤281474976710656) (t0 : -281474976710656≤ti) (t1:ti≤281474976710656) (D : -1125899906842624≤tr) (C:tr≤1125899906842624) (s0:0≤sp) (s1:sp≤72057594037927936) (c0:1≤le) (c1:le≤B) (c2:B≤1000) (F:∀ a∈l,0≤a.w.at_∧a.w.at_≤562949953421312) (pl:List Int):Calls Tryz.prog 96 #[.agg #[.int .i64 le, .int .i64 B, .int .i64 nw, .bool on, .int .i64 ze, .int .i64 fi, .int .i64 hi, .int .i64 dn, .int .i64 sp, .int .i64 tr, .slice A n qc, .int .i64 la, .int .i64 tw, .int .i64 pd], .agg #[.int .i64 sq, .int .i64 ti, .bool mk, .int .u8 ty, .slice MA mn mc]] w (MeasR ⟨le,B,nw,on,ze,fi,hi,dn,sp,tr,l.map TW.w,la,tw,pd⟩ ⟨sq,ti,mk,ty,pl⟩ A n qc w):=by
 exact zqe ⟨le,B,nw,on,ze,fi,hi,dn,sp,tr,l.map TW.w,la,tw,pd⟩ A l n qc ⟨sq,ti,mk,ty,pl⟩ MA mn mc w hn rfl hl E n0 n1 t0 t1 D C s0 s1 c0 c1 c2 F
end
section
open Go.RowKit
def Z14:List Value:=[.int .i64 0, .int .i64 0, .int .i64 0, .bool false, .int .i64 0, .int .i64 0, .int .i64 0, .int .i64 0, .int .i64 0, .int .i64 0, .slice none 0 0, .int .i64 0, .int .i64 0, .int .i64 0]
structure PSt (w W:World) (lo B:Nat) (cs ms:List Value) (A1:Option Addr) (l1:List TW) (A2:Option Addr) (n2 c2:Nat) (l2:List TW):Prop where
 bs:Blk W w.heap.size 37 cs.toArray
 bm:Blk W (w.heap.size+1) 183 ms.toArray
 br:Blk W (w.heap.size+1+1) 37 Z14.toArray
 u:Bel w W
 p1:WtsIn W lo B A1 l1
 q2:QOwn W B A2 n2 c2 l2
 lo1:w.heap.size+1+1<lo
 lo2:lo≤B
 hB:B≤W.heap.size
section
variable {w W W':World} {lo B n2 c2:Nat} {cs ms:List Value} {A1 A2:Option Addr} {l1 l2:List TW}
theorem PSt.later (h:PSt w W lo B cs ms A1 l1 A2 n2 c2 l2) (hb:Below W.heap.size W W'):PSt w W' lo B cs ms A1 l1 A2 n2 c2 l2 :=
 ⟨h.bs.later hb,h.bm.later hb,h.br.later hb,h.u.later hb,h.p1.below hb h.hB,h.q2.below hb,h.lo1,h.lo2,Nat.le_trans h.hB hb.size⟩
theorem PSt.set (h:PSt w W lo B cs ms A1 l1 A2 n2 c2 l2) (i:Nat) (v:Value):PSt w (W.setCell ⟨w.heap.size,i,none⟩ v) lo B (cs.set i v) ms A1 l1 A2 n2 c2 l2:=by
 have h1:=h.lo1
 have h2:=h.lo2
 refine ⟨?_,h.bm.far (by simp) _,h.br.far (by simp;omega) _,zah h.u (Nat.le_refl _) _,h.p1.setCell (by simp;omega) _,h.q2.setCell (by simp;omega) _,h.lo1,h.lo2,by simpa [World.setCell] using h.hB⟩
 have:=h.bs.set_ i v
 simpa using this
theorem PSt.row (h:PSt w W lo B cs ms A1 l1 A2 n2 c2 l2) (vs:List Value) (hl:cs.length=vs.length):PSt w (setRow w.heap.size W 0 vs) lo B vs ms A1 l1 A2 n2 c2 l2:=by
 have h1:=h.lo1
 have h2:=h.lo2
 exact ⟨h.bs.setRow vs (by simpa using hl),h.bm.farRow (by omega) vs W 0,h.br.farRow (by omega) vs W 0,Go.Proofs.YtbcgnddpkiemoaaGreat.below_setRow (Nat.le_refl _) vs W 0 h.u,WtsIn.setRow (by omega) vs W 0 h.p1,QOwn.setRow (by omega) vs W 0 h.q2,h.lo1,h.lo2,by rw [zbn];exact h.hB⟩
theorem PSt.fin (h:PSt w W lo B cs ms A1 l1 A2 n2 c2 l2) (vs:List Value) (hl:vs.length=14):Blk (setRow (w.heap.size+1+1) W 0 vs) (w.heap.size+1+1) 37 vs.toArray∧Wts (setRow (w.heap.size+1+1) W 0 vs) (setRow (w.heap.size+1+1) W 0 vs).heap.size A1 l1∧Wts (setRow (w.heap.size+1+1) W 0 vs) (setRow (w.heap.size+1+1) W 0 vs).heap.size A2 l2∧l2.length=n2∧n2≤c2∧c2≤maxLen∧Below w.heap.size w (setRow (w.heap.size+1+1) W 0 vs):=by
 have h1:=h.lo1
 have h2:=h.lo2
 have q:=QOwn.setRow (g:=w.heap.size+1+1) (by omega) vs W 0 h.q2
 exact ⟨h.br.setRow vs (by simp [Z14,hl]),(WtsIn.setRow (g:=w.heap.size+1+1) (by omega) vs W 0 h.p1).rows.more (by rw [zbn];exact h.hB),q.wts,q.len,q.own.cap,Owns.capm q.own,Go.Proofs.YtbcgnddpkiemoaaGreat.below_setRow (by omega) vs W 0 h.u⟩
theorem PSt.ins {c3:Nat} (h:PSt w W lo B cs ms A1 l1 A2 n2 c2 l2) (hb:Below B W W') (hq:QOwn W' B A3 n3 c3 l3):PSt w W' lo B cs ms A1 l1 A3 n3 c3 l3:=by
 have h1:=h.lo1
 have h2:=h.lo2
 exact ⟨h.bs.below hb (by omega),h.bm.below hb (by omega),h.br.below hb (by omega),h.u.trans (hb.mono (by omega)),h.p1.below hb (Nat.le_refl _),hq,h.lo1,h.lo2,Nat.le_trans h.hB hb.size⟩
end
end
section
attribute [local go_sem ↓] zab zac
attribute [local go_sem] zaa zad
open Go.RowKit
theorem zqf (s:Jb.Jt) (m:Jb.Md) (now:Int) (h:s.ok) (hm:m.ok) (h1:s.now≤now) (h2:now≤281474976710656) :
 (-1125899906842624≤(Jb.meas (Jb.run0 s now) m).zero∧(Jb.meas (Jb.run0 s now) m).zero≤1125899906842624)∧(-281474976710656≤(Jb.meas (Jb.run0 s now) m).first∧(Jb.meas (Jb.run0 s now) m).first≤281474976710656)∧Jb.okQ now s.high (Jb.left now s.q):=by
 have h0:({ s with played:=0 } : Jb.Jt).ok:=Jb.cnt_ok s h s.late s.twice 0 h.2.2.1.1 h.2.2.1.2.1 (by simp)
 have hd:=zqa now s.q
 have hq:=((Jb.okQ_iff _ _ _).1 h.2.2.2.2).1
 have hr:=Jb.run0_ok { s with played:=0 } now h0 h1 h2 (by show (0:Int)+(Jb.due now s.q).length≤_;omega)
 have A:=Jb.meas_ok _ m hr hm
 exact ⟨A.1.2.1,A.1.2.2.2.1,hr.2.2.2.2⟩
theorem zmx (s:Jb.Jt) (m:Jb.Md) (h0:(s.q.any fun w=>w.m.sq==m.sq)=true):Jb.put0 s m=({ s with twice:=s.twice+1 }, 3):=by unfold Jb.put0;rw [if_pos h0]
theorem zqg (s:Jb.Jt) (m:Jb.Md) (h0:(s.q.any fun w=>w.m.sq==m.sq)=false) (h1:s.on=true∧m.sq≤s.done):Jb.put0 s m=({ s with late:=s.late+1 }, 2):=by unfold Jb.put0;rw [if_neg (by rw [h0];simp),if_pos h1]
theorem zqh (s:Jb.Jt) (m:Jb.Md) (h0:(s.q.any fun w=>w.m.sq==m.sq)=false) (h1:¬(s.on=true∧m.sq≤s.done)) (h2:200≤s.q.length):Jb.put0 s m=(s,4):=by unfold Jb.put0;rw [if_neg (by rw [h0];simp),if_neg h1,if_pos h2]
theorem zqi (s:Jb.Jt) (m:Jb.Md) (h0:(s.q.any fun w=>w.m.sq==m.sq)=false) (h1:¬(s.on=true∧m.sq≤s.done)) (h2:¬200≤s.q.length) (A:Jb.Jt) (AT:Int) (h3:Jb.meas s m=A) (h4:A.zero+(m.ti-A.first) / 8=AT) :
 Jb.put0 s m=if AT≤s.now then ({ A with late:=A.late+1 }, 2) else if s.now+120000<AT then (A,5) else ({ A with q:=Jb.ins A.q ⟨AT,m⟩ }, 1):=by
 unfold Jb.put0
 rw [if_neg (by rw [h0];simp),if_neg h1,if_neg h2]
 simp only [h3]
 unfold Jb.ptime
 rw [h4]
def JPutR (s:Jb.Jt) (now:Int) (m:Jb.Md) (w:World) (e:Ending) (w':World):Prop :=
 ∃ (A1:Option Addr) (c1:Nat) (l1:List TW) (A2:Option Addr) (c2:Nat) (l2:List TW),e = .returned (.tuple #[JV (Jb.put s now m).1 A2 l2.length c2, .slice A1 l1.length c1, .int .u8 (Jb.put s now m).2.2.1, .int .u8 (Jb.put s now m).2.2.2])∧l1.map TW.w=(Jb.put s now m).2.1∧l2.map TW.w=(Jb.put s now m).1.q∧Wts w' w'.heap.size A1 l1∧Wts w' w'.heap.size A2 l2∧l2.length≤c2∧c2≤maxLen∧Below w.heap.size w w'∧l1.length≤c1∧c1≤maxLen
def JPutW (s:Jb.Jt) (now:Int) (m:Jb.Md) (w:World) (e:Ending) (w':World):Prop :=
 ∃ (A1:Option Addr) (c1:Nat) (l1:List TW) (A2:Option Addr) (c2:Nat) (l2:List TW),e = .returned (.tuple #[JV (Jb.put s now m).1 A2 l2.length c2, .slice A1 l1.length c1, .int .u8 (Jb.put s now m).2.2.1, .int .u8 (Jb.put s now m).2.2.2])∧l1.map TW.w=(Jb.put s now m).2.1∧l2.map TW.w=(Jb.put s now m).1.q∧WtsIn w' w.heap.size w'.heap.size A1 l1∧WtsIn w' w.heap.size w'.heap.size A2 l2∧l2.length≤c2∧c2≤maxLen∧Below w.heap.size w w'∧l1.length≤c1∧c1≤maxLen
theorem JPutW.r {s:Jb.Jt} {e:Ending} (h:JPutW s now m w e w'):JPutR s now m w e w':=by
 obtain ⟨A1,c1,l1,A2,c2,l2,h1,h2,h3,h4,h5,h6⟩:=h
 exact ⟨A1,c1,l1,A2,c2,l2,h1,h2,h3,h4.rows,h5.rows,h6⟩
end
end Go.Proofs.YtbcgnddpkiemoaaGreat
