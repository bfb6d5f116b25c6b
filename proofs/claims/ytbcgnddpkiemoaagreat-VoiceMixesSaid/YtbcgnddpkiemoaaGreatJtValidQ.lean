/- Layer 30: Valid of the program. -/
import Derived.Test.YtbcgnddpkiemoaaGreatSs9Q
import Derived.Test.YtbcgnddpkiemoaaGreatJtVNums
import Derived.Test.YtbcgnddpkiemoaaGreatJtCopyQ
import Derived.LoopN
import Derived.Test.YtbcgnddpkiemoaaGreatVoFunQ
import Derived.Lib.Overlaps
import Derived.Laws.CopyRow
import Derived.Lib.AppendZerosOnto
import Derived.Shelf.Spec.SlicesInsert
import Derived.Deep.RegionHeld3
import Derived.BigQuiet
import Derived.Deep.QuietTactic
import Derived.RegionTactic
set_option linter.unusedVariables false
set_option linter.unusedSimpArgs false
set_option maxRecDepth 100000
set_option maxHeartbeats 12800000
namespace Go.Proofs.YtbcgnddpkiemoaaGreat
attribute [local go_sem ↓] zab zac
attribute [local go_sem] zaa zad
open Go.RowKit
theorem zmn (le mo nw:Int) (on:Bool) (ze fi hi dn sp tr:Int) (A:Option Addr) (l:List TW) (n qc:Nat) (la tw pd:Int) (w:World) (hn:l.length=n) (hl:n≤100000) (hA:Wts w w.heap.size A l) (hK:∀ a∈l,I64 a.w.m.sq) (hx:Jb.Jt.nums ⟨le,mo,nw,on,ze,fi,hi,dn,sp,tr,l.map TW.w,la,tw,pd⟩) (v:Bool) (hv:v=Jb.valid ⟨le,mo,nw,on,ze,fi,hi,dn,sp,tr,l.map TW.w,la,tw,pd⟩):Calls Tryz.prog 80 #[.agg #[.int .i64 le, .int .i64 mo, .int .i64 nw, .bool on, .int .i64 ze, .int .i64 fi, .int .i64 hi, .int .i64 dn, .int .i64 sp, .int .i64 tr, .slice A n qc, .int .i64 la, .int .i64 tw, .int .i64 pd]] w fun e w'=>e = .returned (.bool v)∧Below w.heap.size w w':=by
 subst hn
 have HX:=Z9 hx
 have HV:=Z9 hv
 clear hv
 obtain ⟨⟨h0,h1⟩,⟨h2,h3⟩,⟨h4,h5⟩,⟨h6,h7⟩,⟨h8,h9⟩,⟨h10,h11⟩,⟨h12,h13⟩⟩:=hx
 replace h0:0≤nw:=h0
 replace h1:nw≤281474976710656:=h1
 replace h2 : -1125899906842624≤ze:=h2
 replace h3:ze≤1125899906842624:=h3
 replace h4 : -1125899906842624≤tr:=h4
 replace h5:tr≤1125899906842624:=h5
 replace h6 : -281474976710656≤fi:=h6
 replace h7:fi≤281474976710656:=h7
 replace h8 : -1≤hi:=h8
 replace h9:hi≤281474976710656:=h9
 replace h10 : -1≤dn:=h10
 replace h11:dn≤281474976710656:=h11
 replace h12:0≤sp:=h12
 replace h13:sp≤72057594037927936:=h13
 obtain ⟨cv,hcv⟩:∃ cv,cv=decide (1≤le∧le≤mo∧mo≤1000):=⟨_,rfl⟩
 have k1:=Z9 fun W=>zfr le mo W cv hcv
 have HC:Hid (cv=decide (Jb.cfg le mo)):=Z9 hcv
 clear hcv
 have HA:=Z9 hA
 have HK:=Z9 hK
 clear hA hK
 have BS:=Z9 (Blk.new w 37 #[.int .i64 le, .int .i64 mo, .int .i64 nw, .bool on, .int .i64 ze, .int .i64 fi, .int .i64 hi, .int .i64 dn, .int .i64 sp, .int .i64 tr, .slice A l.length qc, .int .i64 la, .int .i64 tw, .int .i64 pd])
 have U0:=Z9 ((Bel.refl w).push (.cells #[.int .i64 le, .int .i64 mo, .int .i64 nw, .bool on, .int .i64 ze, .int .i64 fi, .int .i64 hi, .int .i64 dn, .int .i64 sp, .int .i64 tr, .slice A l.length qc, .int .i64 la, .int .i64 tw, .int .i64 pd] 37))
 cases cv
 · have hv:v=false:=by rw [HV.out];exact zwu (fun h=>by have h2:=HC.out;rw [eq_comm,decide_eq_false_iff_not] at h2;exact h2 h)
   subst hv
   go_enter Tryz.func80,Tryz.ntmps80
   go_wp2_with fail
   refine (k1.out _).mono ?_
   rintro e w1 ⟨rfl,hb1⟩
   have U1:=Z9 (U0.out.later hb1)
   clear hb1
   go_wp2_with fail
   go_ret
   exact ⟨rfl,U1.out⟩
 have HCF:Hid (Jb.cfg le mo):=Z9 (by have h2:=HC.out;rw [eq_comm,decide_eq_true_iff] at h2;exact h2)
 clear HC
 go_enter Tryz.func80,Tryz.ntmps80
 go_wp2_with fail
 refine (k1.out _).mono ?_
 rintro e w1 ⟨rfl,hb1⟩
 have U1:=Z9 (U0.out.later hb1)
 have BS1:=Z9 (BS.out.later hb1)
 clear hb1 BS U0
 have g11:=BS1.out.at 11 _ rfl
 have g12:=BS1.out.at 12 _ rfl
 have g13:=BS1.out.at 13 _ rfl
 go_wp2_with fail
 go_loop [90] (fun i => ∃ k:Nat,k≤3∧i = .int .i64 k∧Hid ((0<k→(0≤la∧la≤281474976710656))∧(1<k→(0≤tw∧tw≤281474976710656))∧(2<k→(0≤pd∧pd≤281474976710656)))) (fun i=>3-(intOf i).toNat)
 case atStart=>exact ⟨0,by omega,rfl,Z9 ⟨fun h=>absurd h (by omega),fun h=>absurd h (by omega),fun h=>absurd h (by omega)⟩⟩
 case round =>
  obtain ⟨k,hk,rfl,HT⟩:=hrel
  have UE:=Z9 (U1.out.push (.cells #[.int .i64 la, .int .i64 tw, .int .i64 pd] 3))
  have hk4:k=0∨k=1∨k=2∨k=3:=by omega
  rcases hk4 with rfl|rfl|rfl|rfl
  · by_cases c1:la<0
    · have hv:v=false:=by rw [HV.out];refine zdo (fun h => ?_);obtain ⟨⟨z1,z2⟩,⟨z3,z4⟩,⟨z5,z6⟩⟩:=h;simp only at z1 z2 z3 z4 z5 z6;omega
      subst hv
      go_wp2_with fail
      go_ret
      exact ⟨rfl,UE.out⟩
    have c1':0≤la:=by omega
    by_cases c2:281474976710656<la
    · have hv:v=false:=by rw [HV.out];refine zdo (fun h => ?_);obtain ⟨⟨z1,z2⟩,⟨z3,z4⟩,⟨z5,z6⟩⟩:=h;simp only at z1 z2 z3 z4 z5 z6;omega
      subst hv
      go_wp2_with fail
      go_ret
      exact ⟨rfl,UE.out⟩
    have c2':la≤281474976710656:=by omega
    go_wp2_with fail
    go_round
    case measure=>simp [intOf]
    case rel=>exact ⟨1,by omega,by go_num,Z9 ⟨fun _=>⟨c1',c2'⟩,fun h=>absurd h (by omega),fun h=>absurd h (by omega)⟩⟩
  · by_cases c1:tw<0
    · have hv:v=false:=by rw [HV.out];refine zdo (fun h => ?_);obtain ⟨⟨z1,z2⟩,⟨z3,z4⟩,⟨z5,z6⟩⟩:=h;simp only at z1 z2 z3 z4 z5 z6;omega
      subst hv
      go_wp2_with fail
      go_ret
      exact ⟨rfl,UE.out⟩
    have c1':0≤tw:=by omega
    by_cases c2:281474976710656<tw
    · have hv:v=false:=by rw [HV.out];refine zdo (fun h => ?_);obtain ⟨⟨z1,z2⟩,⟨z3,z4⟩,⟨z5,z6⟩⟩:=h;simp only at z1 z2 z3 z4 z5 z6;omega
      subst hv
      go_wp2_with fail
      go_ret
      exact ⟨rfl,UE.out⟩
    have c2':tw≤281474976710656:=by omega
    go_wp2_with fail
    go_round
    case measure=>simp [intOf]
    case rel=>exact ⟨2,by omega,by go_num,Z9 ⟨fun _=>HT.out.1 (by omega),fun _=>⟨c1',c2'⟩,fun h=>absurd h (by omega)⟩⟩
  · by_cases c1:pd<0
    · have hv:v=false:=by rw [HV.out];refine zdo (fun h => ?_);obtain ⟨⟨z1,z2⟩,⟨z3,z4⟩,⟨z5,z6⟩⟩:=h;simp only at z1 z2 z3 z4 z5 z6;omega
      subst hv
      go_wp2_with fail
      go_ret
      exact ⟨rfl,UE.out⟩
    have c1':0≤pd:=by omega
    by_cases c2:281474976710656<pd
    · have hv:v=false:=by rw [HV.out];refine zdo (fun h => ?_);obtain ⟨⟨z1,z2⟩,⟨z3,z4⟩,⟨z5,z6⟩⟩:=h;simp only at z1 z2 z3 z4 z5 z6;omega
      subst hv
      go_wp2_with fail
      go_ret
      exact ⟨rfl,UE.out⟩
    have c2':pd≤281474976710656:=by omega
    go_wp2_with fail
    go_round
    case measure=>simp [intOf]
    case rel=>exact ⟨3,by omega,by go_num,Z9 ⟨fun _=>HT.out.1 (by omega),fun _=>HT.out.2.1 (by omega),fun _=>⟨c1',c2'⟩⟩⟩
  · have HCN:Hid (Jb.Jt.cnts ⟨le,mo,nw,on,ze,fi,hi,dn,sp,tr,l.map TW.w,la,tw,pd⟩):=Z9 ⟨HT.out.1 (by omega),HT.out.2.1 (by omega),HT.out.2.2 (by omega)⟩
    have BS2:=Z9 (BS1.out.push (.cells #[.int .i64 la, .int .i64 tw, .int .i64 pd] 3))
    have g0:=BS2.out.at 0 _ rfl
    have g1:=BS2.out.at 1 _ rfl
    have g2:=BS2.out.at 2 _ rfl
    have g3:=BS2.out.at 3 _ rfl
    have g4:=BS2.out.at 4 _ rfl
    have g5:=BS2.out.at 5 _ rfl
    have g6:=BS2.out.at 6 _ rfl
    have g7:=BS2.out.at 7 _ rfl
    have g8:=BS2.out.at 8 _ rfl
    have g9:=BS2.out.at 9 _ rfl
    have g10:=BS2.out.at 10 _ rfl
    have g11':=BS2.out.at 11 _ rfl
    have g12':=BS2.out.at 12 _ rfl
    have g13':=BS2.out.at 13 _ rfl
    have kq:=Z9 fun (W:World) (hW:Bel w W)=>zcp le mo nw on ze fi hi dn sp tr A l l.length qc la tw pd W rfl hl ((HA.out.below hW).more hW.size) HK.out (decide (Jb.okQ nw hi (l.map TW.w))) rfl
    cases on
    rotate_left
    · have hv:v=decide (Jb.okQ nw hi (l.map TW.w)):=by rw [HV.out];exact ztc HX.out HCF.out HCN.out (Or.inl rfl)
      have HV2:=Z9 hv
      clear hv
      go_wp2_with fail
      refine (kq.out _ UE.out).mono ?_
      rintro e w2 ⟨rfl,hb2⟩
      have UF:=Z9 (UE.out.later hb2)
      clear hb2
      go_wp2_with fail
      go_ret
      exact ⟨ztn HV2.out.symm,UF.out⟩
    by_cases y1:l.length=0
    rotate_left
    · have hv:v=false:=by rw [HV.out];refine zjc (fun h => ?_);rcases h with h|⟨y1,y2,y3⟩;exact absurd h (by simp);simp only [List.length_map] at y1 y2 y3;omega
      subst hv
      have y1':(0:Int)<(l.length:Int):=by omega
      go_wp2_with fail
      go_ret
      exact ⟨rfl,UE.out⟩
    have y1':(l.length:Int)≤0:=by omega
    by_cases y2:hi = -1
    rotate_left
    · have hv:v=false:=by rw [HV.out];refine zjc (fun h => ?_);rcases h with h|⟨y1,y2,y3⟩;exact absurd h (by simp);simp only [List.length_map] at y1 y2 y3;omega
      subst hv
      have y2':(hi != -1)=true:=by simpa using y2
      go_wp2_with fail
      go_ret
      exact ⟨rfl,UE.out⟩
    by_cases y3:dn = -1
    rotate_left
    · have hv:v=false:=by rw [HV.out];refine zjc (fun h => ?_);rcases h with h|⟨y1,y2,y3⟩;exact absurd h (by simp);simp only [List.length_map] at y1 y2 y3;omega
      subst hv
      have y3':(dn != -1)=true:=by simpa using y3
      have y2':(hi != -1)=false:=by simpa using y2
      go_wp2_with fail
      go_ret
      exact ⟨rfl,UE.out⟩
    have hrest:Jb.Jt.rest ⟨le,mo,nw,false,ze,fi,hi,dn,sp,tr,l.map TW.w,la,tw,pd⟩:=Or.inr ⟨by simpa using y1,y2,y3⟩
    have HRS:=Z9 hrest
    have y3':(dn != -1)=false:=by simpa using y3
    have y2':(hi != -1)=false:=by simpa using y2
    clear y2 y3 hrest y1'
    obtain rfl:l=[]:=List.eq_nil_of_length_eq_zero y1
    clear y1
    simp only [List.length_nil] at g10
    have kq:=Z9 fun (W:World) (hW:Bel w W)=>zcp le mo nw false ze fi hi dn sp tr A [] 0 qc la tw pd W rfl (by omega) ((HA.out.below hW).more hW.size) HK.out (decide (Jb.okQ nw hi (([]:List TW).map TW.w))) rfl
    have hv:v=decide (Jb.okQ nw hi (([]:List TW).map TW.w)):=by rw [HV.out];exact ztc HX.out HCF.out HCN.out (HRS.out)
    have HV2:=Z9 hv
    clear hv
    go_wp2_with fail
    refine (kq.out _ UE.out).mono ?_
    rintro e w2 ⟨rfl,hb2⟩
    have UF:=Z9 (UE.out.later hb2)
    clear hb2
    go_wp2_with fail
    go_ret
    exact ⟨ztn HV2.out.symm,UF.out⟩
theorem zif (le mo nw:Int) (on:Bool) (ze fi hi dn sp tr:Int) (A:Option Addr) (l:List TW) (n qc:Nat) (la tw pd:Int) (w:World) (hn:l.length=n) (hl:n≤100000) (hA:Wts w w.heap.size A l) (hK:∀ a∈l,I64 a.w.m.sq) (v:Bool) (hv:v=Jb.valid ⟨le,mo,nw,on,ze,fi,hi,dn,sp,tr,l.map TW.w,la,tw,pd⟩):Calls Tryz.prog 80 #[.agg #[.int .i64 le, .int .i64 mo, .int .i64 nw, .bool on, .int .i64 ze, .int .i64 fi, .int .i64 hi, .int .i64 dn, .int .i64 sp, .int .i64 tr, .slice A n qc, .int .i64 la, .int .i64 tw, .int .i64 pd]] w fun e w'=>e = .returned (.bool v)∧Below w.heap.size w w':=by
 by_cases hx:Jb.Jt.nums ⟨le,mo,nw,on,ze,fi,hi,dn,sp,tr,l.map TW.w,la,tw,pd⟩
 · exact zmn le mo nw on ze fi hi dn sp tr A l n qc la tw pd w hn hl hA hK hx v hv
 · rw [hv];exact zmi le mo nw on ze fi hi dn sp tr A l n qc la tw pd w hn hx
theorem zhd {s:Jb.Jt} {now:Int} {fm:Bool} (h:Jb.valid s=false∨281474976710656<now∨fm=false):Jb.chk s now fm=2:=by
 unfold Jb.chk
 rw [if_pos]
 rcases h with h|h|h
 · left;unfold Jb.valid at h;simpa using h
 · exact Or.inr (Or.inl h)
 · exact Or.inr (Or.inr h)
theorem zsi {s:Jb.Jt} {now:Int} {fm:Bool} (h:Jb.valid s=true) (h2:now≤281474976710656) (h3:fm=true):Jb.chk s now fm=if now<s.now then 9 else 0:=by
 unfold Jb.chk
 rw [if_neg]
 rintro (h4|h4|h4)
 · unfold Jb.valid at h;exact h4 (by simpa using h)
 · omega
 · rw [h3] at h4;cases h4
theorem zfe (le mo nw:Int) (on:Bool) (ze fi hi dn sp tr:Int) (A:Option Addr) (l:List TW) (n qc:Nat) (la tw pd:Int) (now:Int) (sq ti:Int) (mk:Bool) (ty:Int) (MA:Option Addr) (mn mc:Nat) (w:World) (hn:l.length=n) (hl:n≤100000) (hA:Wts w w.heap.size A l) (hK:∀ a∈l,I64 a.w.m.sq) (fm:Bool) (hfm:fm=decide ((0≤sq∧sq≤281474976710656)∧(-281474976710656≤ti∧ti≤281474976710656)∧mn≤1500)) (r:Int) (hr:r=Jb.chk ⟨le,mo,nw,on,ze,fi,hi,dn,sp,tr,l.map TW.w,la,tw,pd⟩ now fm):Calls Tryz.prog 92 #[.agg #[.int .i64 le, .int .i64 mo, .int .i64 nw, .bool on, .int .i64 ze, .int .i64 fi, .int .i64 hi, .int .i64 dn, .int .i64 sp, .int .i64 tr, .slice A n qc, .int .i64 la, .int .i64 tw, .int .i64 pd], .int .i64 now, .agg #[.int .i64 sq, .int .i64 ti, .bool mk, .int .u8 ty, .slice MA mn mc]] w fun e w'=>e = .returned (.int .u8 r)∧Below w.heap.size w w':=by
 subst hn
 have HR:=Z9 hr
 have k2:=Z9 fun W=>zfs sq ti mk ty MA mn mc W fm hfm
 clear hr hfm
 obtain ⟨vv,hvv⟩:∃ vv,vv=Jb.valid ⟨le,mo,nw,on,ze,fi,hi,dn,sp,tr,l.map TW.w,la,tw,pd⟩:=⟨_,rfl⟩
 have HVV:=Z9 hvv
 have k1:=Z9 fun (W:World) (hW:Bel w W)=>zif le mo nw on ze fi hi dn sp tr A l l.length qc la tw pd W rfl hl ((hA.below hW).more hW.size) hK vv hvv
 have U0:=Z9 (((Bel.refl w).push (.cells #[.int .i64 le, .int .i64 mo, .int .i64 nw, .bool on, .int .i64 ze, .int .i64 fi, .int .i64 hi, .int .i64 dn, .int .i64 sp, .int .i64 tr, .slice A l.length qc, .int .i64 la, .int .i64 tw, .int .i64 pd] 37)).push (.cells #[.int .i64 sq, .int .i64 ti, .bool mk, .int .u8 ty, .slice MA mn mc] 183))
 have BS:=Z9 ((Blk.new w 37 #[.int .i64 le, .int .i64 mo, .int .i64 nw, .bool on, .int .i64 ze, .int .i64 fi, .int .i64 hi, .int .i64 dn, .int .i64 sp, .int .i64 tr, .slice A l.length qc, .int .i64 la, .int .i64 tw, .int .i64 pd]).push (.cells #[.int .i64 sq, .int .i64 ti, .bool mk, .int .u8 ty, .slice MA mn mc] 183))
 have BM:=Z9 (Blk.new1 w (.cells #[.int .i64 le, .int .i64 mo, .int .i64 nw, .bool on, .int .i64 ze, .int .i64 fi, .int .i64 hi, .int .i64 dn, .int .i64 sp, .int .i64 tr, .slice A l.length qc, .int .i64 la, .int .i64 tw, .int .i64 pd] 37) 183 #[.int .i64 sq, .int .i64 ti, .bool mk, .int .u8 ty, .slice MA mn mc])
 clear hA hK hvv
 cases vv
 · obtain rfl:r=2:=by rw [HR.out];exact zhd (Or.inl HVV.out.symm)
   go_enter Tryz.func92,Tryz.ntmps92
   go_wp2_with fail
   refine (k1.out _ U0.out).mono ?_
   rintro e w1 ⟨rfl,hb1⟩
   have U1:=Z9 (U0.out.later hb1)
   have BS1:=Z9 (BS.out.later hb1)
   have BM1:=Z9 (BM.out.later hb1)
   have g1:=BS1.out.at 2 _ rfl
   have m0:=BM1.out.at 0 _ rfl
   have m1:=BM1.out.at 1 _ rfl
   have m2:=BM1.out.at 2 _ rfl
   have m3:=BM1.out.at 3 _ rfl
   have m4:=BM1.out.at 4 _ rfl
   clear hb1
   go_wp2_with fail
   go_ret
   exact ⟨by first|rfl|simp,U1.out⟩
 by_cases hnow:281474976710656<now
 · obtain rfl:r=2:=by rw [HR.out];exact zhd (Or.inr (Or.inl hnow))
   go_enter Tryz.func92,Tryz.ntmps92
   go_wp2_with fail
   refine (k1.out _ U0.out).mono ?_
   rintro e w1 ⟨rfl,hb1⟩
   have U1:=Z9 (U0.out.later hb1)
   have BS1:=Z9 (BS.out.later hb1)
   have BM1:=Z9 (BM.out.later hb1)
   have g1:=BS1.out.at 2 _ rfl
   have m0:=BM1.out.at 0 _ rfl
   have m1:=BM1.out.at 1 _ rfl
   have m2:=BM1.out.at 2 _ rfl
   have m3:=BM1.out.at 3 _ rfl
   have m4:=BM1.out.at 4 _ rfl
   clear hb1
   go_wp2_with fail
   go_ret
   exact ⟨by first|rfl|simp,U1.out⟩
 have hnow':now≤281474976710656:=by omega
 cases fm
 · obtain rfl:r=2:=by rw [HR.out];exact zhd (Or.inr (Or.inr rfl))
   go_enter Tryz.func92,Tryz.ntmps92
   go_wp2_with fail
   refine (k1.out _ U0.out).mono ?_
   rintro e w1 ⟨rfl,hb1⟩
   have U1:=Z9 (U0.out.later hb1)
   have BS1:=Z9 (BS.out.later hb1)
   have BM1:=Z9 (BM.out.later hb1)
   have g1:=BS1.out.at 2 _ rfl
   have m0:=BM1.out.at 0 _ rfl
   have m1:=BM1.out.at 1 _ rfl
   have m2:=BM1.out.at 2 _ rfl
   have m3:=BM1.out.at 3 _ rfl
   have m4:=BM1.out.at 4 _ rfl
   clear hb1
   go_wp2_with fail
   refine (k2.out _).mono ?_
   rintro e w2 ⟨rfl,hb2⟩
   have U2:=Z9 (U1.out.later hb2)
   have q1:=(BS1.out.later hb2).at 2 _ rfl
   clear hb2
   go_wp2_with fail
   go_ret
   exact ⟨by first|rfl|simp,U2.out⟩
 have hrr:r=if now<nw then 9 else 0:=by rw [HR.out];exact zsi HVV.out.symm hnow' rfl
 by_cases hlt:now<nw
 · rw [if_pos hlt] at hrr
   subst hrr
   go_enter Tryz.func92,Tryz.ntmps92
   go_wp2_with fail
   refine (k1.out _ U0.out).mono ?_
   rintro e w1 ⟨rfl,hb1⟩
   have U1:=Z9 (U0.out.later hb1)
   have BS1:=Z9 (BS.out.later hb1)
   have BM1:=Z9 (BM.out.later hb1)
   have g1:=BS1.out.at 2 _ rfl
   have m0:=BM1.out.at 0 _ rfl
   have m1:=BM1.out.at 1 _ rfl
   have m2:=BM1.out.at 2 _ rfl
   have m3:=BM1.out.at 3 _ rfl
   have m4:=BM1.out.at 4 _ rfl
   clear hb1
   go_wp2_with fail
   refine (k2.out _).mono ?_
   rintro e w2 ⟨rfl,hb2⟩
   have U2:=Z9 (U1.out.later hb2)
   have q1:=(BS1.out.later hb2).at 2 _ rfl
   clear hb2
   go_wp2_with fail
   go_ret
   exact ⟨by first|rfl|simp,U2.out⟩
 · rw [if_neg hlt] at hrr
   subst hrr
   have hlt':nw≤now:=by omega
   go_enter Tryz.func92,Tryz.ntmps92
   go_wp2_with fail
   refine (k1.out _ U0.out).mono ?_
   rintro e w1 ⟨rfl,hb1⟩
   have U1:=Z9 (U0.out.later hb1)
   have BS1:=Z9 (BS.out.later hb1)
   have BM1:=Z9 (BM.out.later hb1)
   have g1:=BS1.out.at 2 _ rfl
   have m0:=BM1.out.at 0 _ rfl
   have m1:=BM1.out.at 1 _ rfl
   have m2:=BM1.out.at 2 _ rfl
   have m3:=BM1.out.at 3 _ rfl
   have m4:=BM1.out.at 4 _ rfl
   clear hb1
   go_wp2_with fail
   refine (k2.out _).mono ?_
   rintro e w2 ⟨rfl,hb2⟩
   have U2:=Z9 (U1.out.later hb2)
   have q1:=(BS1.out.later hb2).at 2 _ rfl
   clear hb2
   go_wp2_with fail
   go_ret
   exact ⟨by first|rfl|simp,U2.out⟩
end Go.Proofs.YtbcgnddpkiemoaaGreat
namespace Go.Proofs.YtbcgnddpkiemoaaGreat
open Go.RowKit
def JL (s:Jb.Jt) (A:Option Addr) (n c:Nat):List Value:=[.int .i64 s.least, .int .i64 s.most, .int .i64 s.now, .bool s.on, .int .i64 s.zero, .int .i64 s.first, .int .i64 s.high, .int .i64 s.done, .int .i64 s.spread, .int .i64 s.trans, .slice A n c, .int .i64 s.late, .int .i64 s.twice, .int .i64 s.played]
def NoU8 (cs:List Value):Prop:=∀ v∈cs,∀ z,v ≠ .int .u8 z
def ML (m:Jb.Md) (A:Option Addr) (n c:Nat):List Value:=[.int .i64 m.sq, .int .i64 m.ti, .bool m.mrk, .int .u8 m.ty, .slice A n c]
theorem zap:(Tryz.prog.info? 37).map (·.size)=some 14:=by kernel_rfl
theorem zhe:(Tryz.prog.info? 183).map (·.size)=some 5:=by kernel_rfl
def tailT (s:Jb.Jt) (m:Jb.Md) (now:Int):Jb.Jt×Int:=if Jb.ptime s m.ti≤now then ({ s with late:=s.late+1 }, 2) else if now+120000<Jb.ptime s m.ti then (s,5) else ({ s with q:=Jb.ins s.q ⟨Jb.ptime s m.ti,m⟩ }, 1)
def fromReg (i:Nat):Code→Option Code
 | .seq (.region j ops d) b=>if i=j then some (.seq (.region j ops d) b) else fromReg i b
 | .seq (.seq (.region j ops d) x) b=>if i=j then some (.seq (.seq (.region j ops d) x) b) else fromReg i b
 | .seq a b=>fromReg i b
 | _=>none
def firstWp (P:Program):Code→(Exit→Act→World→Prop)→Act→World→Prop
 | .seq x y,Q=>firstWp P x (Exit.then (y.wp P Q) Q)
 | c,Q=>c.wp P Q
theorem zaq {P:Program} {i:Nat} {o:Array Oper} {d:Bool} {y:Code} {Q:Exit→Act→World→Prop} {a:Act} {w:World} (h:∀ K:Act→World→Prop,(∀ a w,y.wp P Q a w→K a w)→(Code.region i o d).wp P (Exit.then K Q) a w):firstWp P (.seq (.region i o d) y) Q a w:=h _ fun _ _ h=>h
theorem zas {P:Program} {i:Nat} {o:Array Oper} {d:Bool} {x y:Code} {Q:Exit→Act→World→Prop} {a:Act} {w:World} (h:∀ K:Act→World→Prop,(∀ a w,y.wp P Q a w→K a w)→∀ L:Act→World→Prop,(∀ a w,x.wp P (Exit.then K Q) a w→L a w)→(Code.region i o d).wp P (Exit.then L (Exit.then K Q)) a w):firstWp P (.seq (.seq (.region i o d) x) y) Q a w:=h _ (fun _ _ h=>h) _ fun _ _ h=>h
theorem zan {P:Program} {x y:Code} {Q:Exit→Act→World→Prop} {K:Act→World→Prop} {a:Act} {w:World} (hk:∀ a w,y.wp P Q a w→K a w) (h:x.wp P (Exit.then (y.wp P Q) Q) a w):x.wp P (Exit.then K Q) a w :=
 Code.wp_mono (fun e a w q=>by cases e<;>first|exact hk _ _ q|exact q) h
theorem zbh {P:Program} {x1 x2 y:Code} {Q:Exit→Act→World→Prop} {K1 K2:Act→World→Prop} {a:Act} {w:World} (hk1:∀ a w,x2.wp P (Exit.then K2 Q) a w→K1 a w) (hk2:∀ a w,y.wp P Q a w→K2 a w)
 (h:x1.wp P (Exit.then (x2.wp P (Exit.then (y.wp P Q) Q)) (Exit.then (y.wp P Q) Q)) a w):x1.wp P (Exit.then K1 (Exit.then K2 Q)) a w :=
 Code.wp_mono (fun e a w q=>by
  cases e<;>first
   | exact hk1 _ _ (Code.wp_mono (fun e a w q=>by cases e<;>first|exact hk2 _ _ q|exact q) q)
   | exact q) h
def AllL:List (Nat×Value)→List Value→Prop
 | [],_=>True
 | (k,v)::L,xs=>xs[k]? = some v∧AllL L xs
def AllS:List (Nat×Value)→(Nat→Value)→Prop
 | [],_=>True
 | (k,v)::L,s=>s k=v∧AllS L s
def Fr (n:Nat) (L:List (Nat×Value)) (a:Act):Prop:=∃ s:Nat→Value,a=⟨((List.range n).map s).toArray,[]⟩∧AllS L s
theorem AllL.s {xs:List Value} : ∀ {L:List (Nat×Value)}, AllL L xs→AllS L fun k=>xs.getD k undef
 | [],_=>trivial
 | (k,v)::L,h=>⟨by show xs.getD k undef=v;rw [List.getD_eq_getElem?_getD,h.1];rfl,AllL.s h.2⟩
theorem Fr.mk {n:Nat} {L:List (Nat×Value)} {xs:List Value} (h:xs.length=n) (hL:AllL L xs):Fr n L ⟨xs.toArray,[]⟩:=by
 refine ⟨fun k=>xs.getD k undef,?_,hL.s⟩
 congr 2
 apply List.ext_getElem
 · simp [h]
 · intro k h1 h2
   simp [List.getElem?_eq_getElem h1]
def inBlk:Option Code→Option Code
 | some (.block _ c)=>some c
 | _=>none
def findB (i:Nat):Code→Option Code
 | .block j c=>if i=j then some c else findB i c
 | .seq a b => match findB i a with
   | some c=>some c
   | none=>findB i b
 | .cond _ a b => match findB i a with
   | some c=>some c
   | none=>findB i b
 | .loop c=>findB i c
 | .scope c=>findB i c
 | _=>none
theorem zbn {P:Program} {c:Code} {Q:Exit→Act→World→Prop} (J:Nat→Act→World→Prop) (round:∀ n a w,J n a w→c.wp P (Exit.then (fun a' w' => ∃ m,n=m+1∧J m a' w') Q) a w):∀ n a w,J n a w→Code.rounds P c Q (n+1) a w
 | 0,a,w,h=>Code.wp_mono (fun e a w q=>by
  cases e<;>first|exact q|(obtain ⟨m,hm,_⟩:=q;omega)) (round 0 a w h)
 | n+1,a,w,h=>Code.wp_mono (fun e a w q=>by
  cases e<;>first|exact q|(obtain ⟨m,hm,hJ⟩:=q;obtain rfl:m=n:=(by omega);exact zbn J round m a w hJ)) (round (n+1) a w h)
def findT (i:Nat):Code→Option Code
 | .cond _ (.seq (.region j ops d) b) _=>if i=j then some (.seq (.region j ops d) b) else none
 | .seq a b => match findT i a with
   | some c=>some c
   | none=>findT i b
 | _=>none
theorem zig {P:Program} {i:Nat} {o:Array Oper} {d:Bool} {y:Code} {Q:Exit→Act→World→Prop} {a:Act} {w:World} (h:firstWp P (.seq (.region i o d) y) Q a w):(Code.seq (.region i o d) y).wp P Q a w:=by
 first|exact Code.wp_seq h|exact wp_seq h
end Go.Proofs.YtbcgnddpkiemoaaGreat
namespace Go.Proofs.YtbcgnddpkiemoaaGreat
attribute [local go_sem ↓] zab zac
attribute [local go_sem] zaa zad
open Go.RowKit
theorem r54 (s:Nat→Value):((List.range 54).map s).toArray = #[s 0,s 1,s 2,s 3,s 4,s 5,s 6,s 7,s 8,s 9,s 10,s 11,s 12,s 13,s 14,s 15,s 16,s 17,s 18,s 19,s 20,s 21,s 22,s 23,s 24,s 25,s 26,s 27,s 28,s 29,s 30,s 31,s 32,s 33,s 34,s 35,s 36,s 37,s 38,s 39,s 40,s 41,s 42,s 43,s 44,s 45,s 46,s 47,s 48,s 49,s 50,s 51,s 52,s 53]:=rfl
structure RZ (w W:World) (lo B:Nat) (s:Jb.Jt) (now:Int) (A1:Option Addr) (l1:List TW) (A2:Option Addr) (c2:Nat) (l2:List TW):Prop where
 bs:Blk W w.heap.size 37 (JL s A2 l2.length c2).toArray
 bn:Blk W (w.heap.size+1) 3 #[.int .i64 now]
 br:Blk W (w.heap.size+1+1) 37 (JL Jb.Jt.none none 0 0).toArray
 u:Bel w W
 p1:WtsIn W lo B A1 l1
 q2:QOwn W B A2 l2.length c2 l2
 lo1:w.heap.size+1+1<lo
 lo2:lo≤B
 hB:B≤W.heap.size
section
variable {w W W':World} {lo B c2:Nat} {s s':Jb.Jt} {now:Int} {A1 A2:Option Addr} {l1 l2:List TW}
theorem RZ.put (h:RZ w W lo B s now A1 l1 A2 c2 l2) (i:Nat) (v:Value) (s':Jb.Jt) (hJ:(JL s A2 l2.length c2).set i v=JL s' A2 l2.length c2:=by rfl):RZ w (W.setCell ⟨w.heap.size,i,none⟩ v) lo B s' now A1 l1 A2 c2 l2:=by
 have h1:=h.lo1
 have h2:=h.lo2
 refine ⟨?_,h.bn.far (by simp) _,h.br.far (by simp;omega) _,zaj h.u (Nat.le_refl _) _,h.p1.setCell (by simp;omega) _,h.q2.setCell (by simp;omega) _,h.lo1,h.lo2,by simpa [World.setCell] using h.hB⟩
 have:=h.bs.set_ i v
 rw [← hJ]
 simpa using this
theorem RZ.later (h:RZ w W lo B s now A1 l1 A2 c2 l2) (hb:Below W.heap.size W W'):RZ w W' lo B s now A1 l1 A2 c2 l2 :=
 ⟨h.bs.later hb,h.bn.later hb,h.br.later hb,h.u.later hb,h.p1.below hb h.hB,h.q2.below hb,h.lo1,h.lo2,Nat.le_trans h.hB hb.size⟩
end
def RunZ (T:Jb.Jt) (A1:Option Addr) (c1:Nat) (l1:List TW) (A2:Option Addr) (c2:Nat) (l2:List TW) (lo B:Nat) (w:World) (e:Ending) (w':World):Prop :=
 e = .returned (.tuple #[.agg (JL T A2 l2.length c2).toArray, .slice A1 l1.length c1])∧WtsIn w' lo B A1 l1∧QOwn w' B A2 l2.length c2 l2∧B≤w'.heap.size∧Below w.heap.size w w'
theorem QOwn.onlyZ {W W':World} {B g n c:Nat} {A:Option Addr} {l:List TW} (h:QOwn W B A n c l) (ho:OnlyB g W W') (hg:g<B):QOwn W' B A n c l :=
 ⟨h.len,ho.owns h.own hg,fun a ha h0=>by
  obtain ⟨b,off,e,hlt,hc⟩:=h.pay a ha h0
  have:=h.new a ha h0 b off e
  exact ⟨b,off,e,by rw [ho.2];exact hlt,fun i hi=>(ho.cell (show b≠g by omega)).trans (hc i hi)⟩,h.far,h.new,h.cap⟩
noncomputable def rn4_code:Code:=((Tryz.f93.body.bind (fromReg 4)).getD .skip)
noncomputable def rn6_code:Code:=((Tryz.f93.body.bind (fromReg 6)).getD .skip)
theorem zgh {w W:World} {lo B:Nat} {s:Jb.Jt} {now:Int} {A1:Option Addr} {c1:Nat} {l1:List TW} {A2:Option Addr} {c2:Nat} {l2:List TW} {R:Ending→World→Prop} {p:Nat} (hlp:l1.length=p) (S:RZ w W lo B s now A1 l1 A2 c2 l2) (hl1:l1.length≤200) (hpd0 : -9223372036854775808≤s.played) (hpd1:s.played≤9223372036854775000) (hR:∀ e w',RunZ ({ s with played:=s.played+l1.length,done:=Jb.maxSq s.done (l1.map TW.w),now:=now } : Jb.Jt) A1 c1 l1 A2 c2 l2 lo B w e w'→R e w') (a:Act) (ha:Fr 54 [(2, .pointer (some ⟨w.heap.size,0,none⟩)),(3, .pointer (some ⟨w.heap.size+1,0,none⟩)),(4, .pointer (some ⟨w.heap.size+1+1,0,none⟩)),(6, .int .i64 p),(7, .slice A1 p c1)] a):firstWp Tryz.prog rn6_code (bodyPost Tryz.prog Tryz.f93 R) a W:=by
 subst hlp
 obtain ⟨s_,rfl,e2,e3,e4,e6,e7,_⟩:=ha
 rw [r54,e2,e3,e4,e6,e7]
 clear e2 e3 e4 e6 e7
 have HR:=Z9 hR
 clear hR
 refine zaq ?_
 intro _ _
 have b13:W.cell? ⟨w.heap.size,13,none⟩=some (.int .i64 s.played):=S.bs.at 13 _ rfl
 have bfz:=S.bs.frozen
 have hpl : -9223372036854775808≤s.played+(l1.length:Int)∧s.played+(l1.length:Int)≤9223372036854775807:=by omega
 obtain ⟨hp0,hp1⟩:=hpl
 go_upto_region 7 with fail
 have S2:=S.put 13 (.int .i64 (s.played+l1.length)) { s with played:=s.played+l1.length }
 generalize W.setCell _ _=W2 at S2 ⊢
 clear b13 bfz S
 have HS:=Z9 S2
 clear S2
 go_wp2_with fail
 go_loopg [38] l1.length (fun gk i wr => ∃ k:Nat,gk+k=l1.length∧i = .int .i64 k∧Hid (RZ w wr lo B ({ s with played:=s.played+l1.length,done:=Jb.maxSq s.done ((l1.map TW.w).take k) } : Jb.Jt) now A1 l1 A2 c2 l2))
 case atStart=>exact ⟨0,rfl,rfl,HS⟩
 case round =>
  obtain ⟨k,hgk,rfl,SR⟩:=hrel
  have hi0:(0:Int)≤(k:Int):=by omega
  have hz0:=SR.out.bs.lt
  have fzr:=SR.out.bs.frozen
  by_cases hk:k<l1.length
  · have hi1:(k:Int)<(l1.length:Int):=by omega
    obtain ⟨a,ha⟩:∃ a,l1[k]? = some a:=⟨_,List.getElem?_eq_getElem (by omega)⟩
    obtain ⟨b9,off9,rfl,hbB,e0,e1,e2,e3,e4,e5⟩:=zen SR.out.p1.rows.1 ha
    have hm:Jb.maxSq s.done ((l1.map TW.w).take (k+1))=max (Jb.maxSq s.done ((l1.map TW.w).take k)) a.w.m.sq:=by
     rw [List.take_add_one,List.getElem?_map,ha]
     exact zmv _ _ _
    have HM:=Z9 hm
    obtain ⟨⟨at0,⟨sq0,ti0,mk0,ty0,pl0⟩⟩,B0,c0⟩:=a
    simp only at e0 e1 e2 e3 e4 e5 HM
    have hbw:b9<wr.heap.size:=Nat.lt_of_lt_of_le hbB SR.out.hB
    have p7:wr.cell? ⟨w.heap.size,7,none⟩=some (.int .i64 (Jb.maxSq s.done ((l1.map TW.w).take k))):=SR.out.bs.at 7 _ rfl
    clear ha hm
    go_wp2_with fail
    go_roundg (gk-1)
    case measure=>omega
    case rel =>
     refine ⟨k+1,by omega,by go_num,Z9 ?_⟩
     rw [HM.out]
     exact (SR.out.put 7 (.int .i64 (max (Jb.maxSq s.done ((l1.map TW.w).take k)) sq0)) { s with played:=s.played+l1.length,done:=max (Jb.maxSq s.done ((l1.map TW.w).take k)) sq0 }).later ((Below.refl _ _).alloc (Nat.le_refl _) _)
  obtain rfl:k=l1.length:=by omega
  have hi1:(l1.length:Int)≤(l1.length:Int):=Int.le_refl _
  have S3:=SR.out
  rw [List.take_of_length_le (by simp)] at S3
  have n0:wr.cell? ⟨w.heap.size+1,0,none⟩=some (.int .i64 now):=S3.bn.at 0 _ rfl
  have b2:wr.cell? ⟨w.heap.size,2,none⟩=some (.int .i64 s.now):=S3.bs.at 2 _ rfl
  clear SR
  go_upto_region 13 with fail
  clear n0 b2 hz0
  have S4:=S3.put 2 (.int .i64 now) ({ s with played:=s.played+l1.length,done:=Jb.maxSq s.done (l1.map TW.w),now:=now } : Jb.Jt)
  generalize wr.setCell _ _=W5 at S4 ⊢
  go_wp2_with (first|(refine zae rfl 37 (.tmp 2) rfl (w.heap.size) 0 rfl 37 (JL ({ s with played:=s.played+l1.length,done:=Jb.maxSq s.done (l1.map TW.w),now:=now } : Jb.Jt) A2 l2.length c2) S4.bs 14 _ Tryz.underlying37 zap (show 0+14≤14 by decide) (JL ({ s with played:=s.played+l1.length,done:=Jb.maxSq s.done (l1.map TW.w),now:=now } : Jb.Jt) A2 l2.length c2).toArray (by rfl) rfl ?_)|(refine zaf rfl 37 (.tmp 4) (.tmp 52) rfl (w.heap.size+1+1) 0 rfl 37 (JL Jb.Jt.none none 0 0) S4.br (JL ({ s with played:=s.played+l1.length,done:=Jb.maxSq s.done (l1.map TW.w),now:=now } : Jb.Jt) A2 l2.length c2) rfl zap (show 0+14≤14 by decide) rfl (JL ({ s with played:=s.played+l1.length,done:=Jb.maxSq s.done (l1.map TW.w),now:=now } : Jb.Jt) A2 l2.length c2) rfl ?_;intro WB BB OB)|fail)
  have h1:=S4.lo1
  have h2:=S4.lo2
  exact bodyPost_ret (v := .tuple #[.agg (JL ({ s with played:=s.played+l1.length,done:=Jb.maxSq s.done (l1.map TW.w),now:=now } : Jb.Jt) A2 l2.length c2).toArray, .slice A1 l1.length c1]) (zei Tryz.results93 rfl (run_loadVar_row (P:=Tryz.prog) _ _ _ _ _ _ _ BB Tryz.underlying37 rfl (by kernel_rfl)) rfl) rfl (HR.out _ _ ⟨rfl,S4.p1.keep fun p g1 g2=>OB.cell (by omega),S4.q2.onlyZ OB (by omega),by rw [OB.2];exact S4.hB,OB.bel S4.u (by omega)⟩)
structure RB0 (w W:World) (s:Jb.Jt) (now:Int) (A:Option Addr) (n c:Nat):Prop where
 bs:Blk W w.heap.size 37 (JL s A n c).toArray
 bn:Blk W (w.heap.size+1) 3 #[.int .i64 now]
 br:Blk W (w.heap.size+1+1) 37 (JL Jb.Jt.none none 0 0).toArray
 u:Bel w W
theorem RB0.later {w W W':World} {s:Jb.Jt} {now:Int} {A:Option Addr} {n c:Nat} (h:RB0 w W s now A n c) (hb:Below W.heap.size W W'):RB0 w W' s now A n c:=⟨h.bs.later hb,h.bn.later hb,h.br.later hb,h.u.later hb⟩
theorem RB0.b10 {w W:World} {s:Jb.Jt} {now:Int} {A:Option Addr} {n c:Nat} (h:RB0 w W s now A n c):W.cell? ⟨w.heap.size,10,none⟩=some (.slice A n c):=h.bs.at 10 _ rfl
theorem RB0.queue {w W:World} {s:Jb.Jt} {now:Int} {A:Option Addr} {n c lo B c2:Nat} {A1 A2:Option Addr} {l1 l2:List TW} {m:Nat} (h:RB0 w W s now A n c) (p1:WtsIn W lo B A1 l1) (q2:QOwn W B A2 m c2 l2) (h0:w.heap.size+1+1<lo) (h1:lo≤B) (h2:B≤W.heap.size):RZ w (W.setCell ⟨w.heap.size,10,none⟩ (.slice A2 m c2)) lo B s now A1 l1 A2 c2 l2:=by
 obtain rfl:=q2.len
 refine ⟨?_,h.bn.far (by simp) _,h.br.far (by simp;omega) _,zaj h.u (Nat.le_refl _) _,p1.setCell (by simp;omega) _,q2.setCell (by simp;omega) _,h0,h1,by simpa [World.setCell] using h2⟩
 have:=h.bs.set_ 10 (.slice A2 l2.length c2)
 simpa [JL] using this
theorem ztd {w W:World} {s:Jb.Jt} {now:Int} {A:Option Addr} {l:List TW} {n c p:Nat} {R:Ending→World→Prop} (S:RB0 w W s now A n c) (hA:Wts W W.heap.size A l) (hn:l.length=n) (hl:n≤200) (hcap:n≤c) (hcm:c≤maxLen) (hP:∀ a∈l,a.w.m.pl.length≤1000000) (hp:p≤n) (hpd0 : -9223372036854775808≤s.played) (hpd1:s.played≤9223372036854775000) (hR:∀ (A1:Option Addr) (c1:Nat) (l1:List TW) (A2:Option Addr) (c2:Nat) (l2:List TW) (lo B:Nat) (e:Ending) (w':World),l1.map TW.w=(l.take p).map TW.w→l2.map TW.w=(l.drop p).map TW.w→l1.length≤c1∧c1≤maxLen→W.heap.size≤lo→lo≤B→RunZ ({ s with played:=s.played+l1.length,done:=Jb.maxSq s.done (l1.map TW.w),now:=now } : Jb.Jt) A1 c1 l1 A2 c2 l2 lo B w e w'→R e w') (a:Act) (ha:Fr 54 [(2, .pointer (some ⟨w.heap.size,0,none⟩)),(3, .pointer (some ⟨w.heap.size+1,0,none⟩)),(4, .pointer (some ⟨w.heap.size+1+1,0,none⟩)),(6, .int .i64 p)] a):firstWp Tryz.prog rn4_code (bodyPost Tryz.prog Tryz.f93 R) a W:=by
 obtain ⟨s_,rfl,e2,e3,e4,e6,_⟩:=ha
 rw [r54,e2,e3,e4,e6]
 clear e2 e3 e4 e6
 unfold maxLen at hcm
 have k2:=Z9 fun (A9:Option Addr) (c9 m:Nat) (V:World) (hm:(l.take p).length=m) (h:Wts V V.heap.size A9 (l.take p))=>zfk A9 (l.take p) m c9 V V.heap.size (Nat.le_refl _) hm (by simp at hm;omega) h (fun a ha=>hP a (List.mem_of_mem_take ha)) _ rfl
 have k3:=Z9 fun (A9:Option Addr) (c9 m:Nat) (V:World) (hm:(l.drop p).length=m) (h:Wts V V.heap.size A9 (l.drop p))=>zfk A9 (l.drop p) m c9 V V.heap.size (Nat.le_refl _) hm (by simp at hm;omega) h (fun a ha=>hP a (List.mem_of_mem_drop ha)) _ rfl
 have HR:=Z9 hR
 have HP:=Z9 (And.intro hpd0 hpd1)
 clear hR hP hpd0 hpd1
 have h1:(0:Int)≤(p:Int):=by omega
 have h2:(p:Int)≤(n:Int):=by omega
 have h3:(p:Int)≤(c:Int):=by omega
 have h5:(n:Int)≤(c:Int):=by omega
 refine zaq ?_
 intro _ _
 have b10:W.cell? ⟨w.heap.size,10,none⟩=some (.slice A n c):=S.bs.at 10 _ rfl
 have HA:=Z9 hA
 clear hA
 rcases A with _|⟨b,off,sb⟩
 · obtain rfl:l=[]:=by
    rcases HA.out.form with e|⟨b,off,e⟩
    · exact e
    · cases e
   obtain rfl:n=0:=hn.symm
   obtain rfl:p=0:=by omega
   clear h1 h2 h3 h5
   go_wp2_with fail
   refine (k2.out _ _ _ _ ?_ ?_).mono ?_
   · (first|rfl|(simp;try omega))
   · (first|exact HA.out.take _|exact Wts.empty)
   rintro e w2 ⟨A1,c1,l1,rfl,hm1,hq1,hb2⟩
   have S2:=S.later hb2
   have HA2:=Z9 (HA.out.later hb2)
   have hlo:=S.br.lt
   clear b10
   have b10:=S2.b10
   go_wp2_with fail
   refine (k3.out _ _ _ _ ?_ ?_).mono ?_
   · (first|rfl|(simp;try omega))
   · (first|exact HA2.out.dropAt _|(simp;exact Wts.empty)|exact Wts.empty|(rw [List.drop_of_length_le (by omega)];exact Wts.empty))
   rintro e w3 ⟨A2,c2,l2,rfl,hm2,hq2,hb3⟩
   have S3:=S2.later hb3
   have hs2:=hb2.size
   have S4:=S3.queue (hq1.wtsIn.below hb3 (Nat.le_refl _)) hq2 hlo hs2 hb3.size
   have HC:=Z9 (And.intro (And.intro hm1 hm2) (And.intro hq1 (And.intro hs2 hlo)))
   clear b10
   have b10:=S3.b10
   have bfz:=S3.bs.frozen
   clear hm1 hm2 hq1 hq2 hb2 hb3 k2 k3 S2 S3 S hlo hs2
   go_upto_region 6 with fail
   generalize w3.setCell _ _=W4 at S4 ⊢
   refine zan (by assumption) ?_
   exact zgh HC.out.2.1.len S4 (by have:=HC.out.2.1.len;omega) HP.out.1 HP.out.2 (fun e w' h=>HR.out _ _ _ _ _ _ _ _ _ _ HC.out.1.1 HC.out.1.2 ⟨by rw [HC.out.2.1.len];exact HC.out.2.1.own.cap,Owns.capm HC.out.2.1.own⟩ (Nat.le_refl _) HC.out.2.2.1 h) _ (Fr.mk rfl ⟨rfl,rfl,rfl,rfl,rfl,trivial⟩)
 by_cases hn0:n=0
 · obtain rfl:l=[]:=List.eq_nil_of_length_eq_zero (by omega)
   subst hn0
   obtain rfl:p=0:=by omega
   clear h1 h2 h3 h5
   have h00:(0:Int)≤(c:Int):=by omega
   by_cases hc:c=0
   · subst hc
     go_wp2_with fail
     refine (k2.out _ _ _ _ ?_ ?_).mono ?_
     · (first|rfl|(simp;try omega))
     · (first|exact HA.out.take _|exact Wts.empty)
     rintro e w2 ⟨A1,c1,l1,rfl,hm1,hq1,hb2⟩
     have S2:=S.later hb2
     have HA2:=Z9 (HA.out.later hb2)
     have hlo:=S.br.lt
     clear b10
     have b10:=S2.b10
     go_wp2_with fail
     refine (k3.out _ _ _ _ ?_ ?_).mono ?_
     · (first|rfl|(simp;try omega))
     · (first|exact HA2.out.dropAt _|(simp;exact Wts.empty)|exact Wts.empty|(rw [List.drop_of_length_le (by omega)];exact Wts.empty))
     rintro e w3 ⟨A2,c2,l2,rfl,hm2,hq2,hb3⟩
     have S3:=S2.later hb3
     have hs2:=hb2.size
     have S4:=S3.queue (hq1.wtsIn.below hb3 (Nat.le_refl _)) hq2 hlo hs2 hb3.size
     have HC:=Z9 (And.intro (And.intro hm1 hm2) (And.intro hq1 (And.intro hs2 hlo)))
     clear b10
     have b10:=S3.b10
     have bfz:=S3.bs.frozen
     clear hm1 hm2 hq1 hq2 hb2 hb3 k2 k3 S2 S3 S hlo hs2
     go_upto_region 6 with fail
     generalize w3.setCell _ _=W4 at S4 ⊢
     refine zan (by assumption) ?_
     exact zgh HC.out.2.1.len S4 (by have:=HC.out.2.1.len;omega) HP.out.1 HP.out.2 (fun e w' h=>HR.out _ _ _ _ _ _ _ _ _ _ HC.out.1.1 HC.out.1.2 ⟨by rw [HC.out.2.1.len];exact HC.out.2.1.own.cap,Owns.capm HC.out.2.1.own⟩ (Nat.le_refl _) HC.out.2.2.1 h) _ (Fr.mk rfl ⟨rfl,rfl,rfl,rfl,rfl,trivial⟩)
   · go_wp2_with fail
     refine (k2.out _ _ _ _ ?_ ?_).mono ?_
     · (first|rfl|(simp;try omega))
     · (first|exact HA.out.take _|exact Wts.empty)
     rintro e w2 ⟨A1,c1,l1,rfl,hm1,hq1,hb2⟩
     have S2:=S.later hb2
     have HA2:=Z9 (HA.out.later hb2)
     have hlo:=S.br.lt
     clear b10
     have b10:=S2.b10
     go_wp2_with fail
     refine (k3.out _ _ _ _ ?_ ?_).mono ?_
     · (first|rfl|(simp;try omega))
     · (first|exact HA2.out.dropAt _|(simp;exact Wts.empty)|exact Wts.empty|(rw [List.drop_of_length_le (by omega)];exact Wts.empty))
     rintro e w3 ⟨A2,c2,l2,rfl,hm2,hq2,hb3⟩
     have S3:=S2.later hb3
     have hs2:=hb2.size
     have S4:=S3.queue (hq1.wtsIn.below hb3 (Nat.le_refl _)) hq2 hlo hs2 hb3.size
     have HC:=Z9 (And.intro (And.intro hm1 hm2) (And.intro hq1 (And.intro hs2 hlo)))
     clear b10
     have b10:=S3.b10
     have bfz:=S3.bs.frozen
     clear hm1 hm2 hq1 hq2 hb2 hb3 k2 k3 S2 S3 S hlo hs2
     go_upto_region 6 with fail
     generalize w3.setCell _ _=W4 at S4 ⊢
     refine zan (by assumption) ?_
     exact zgh HC.out.2.1.len S4 (by have:=HC.out.2.1.len;omega) HP.out.1 HP.out.2 (fun e w' h=>HR.out _ _ _ _ _ _ _ _ _ _ HC.out.1.1 HC.out.1.2 ⟨by rw [HC.out.2.1.len];exact HC.out.2.1.own.cap,Owns.capm HC.out.2.1.own⟩ (Nat.le_refl _) HC.out.2.2.1 h) _ (Fr.mk rfl ⟨rfl,rfl,rfl,rfl,rfl,trivial⟩)
 obtain rfl:sb=none:=by
  rcases HA.out.form with e|⟨b',off',e⟩
  · rw [e] at hn;simp at hn;omega
  · injection e with e;injection e
 by_cases hz:p=n
 · subst hz
   clear h2 h3
   by_cases hc:c=p
   · subst hc
     go_wp2_with fail
     refine (k2.out _ _ _ _ ?_ ?_).mono ?_
     · (first|rfl|(simp;try omega))
     · (first|exact HA.out.take _|exact Wts.empty)
     rintro e w2 ⟨A1,c1,l1,rfl,hm1,hq1,hb2⟩
     have S2:=S.later hb2
     have HA2:=Z9 (HA.out.later hb2)
     have hlo:=S.br.lt
     clear b10
     have b10:=S2.b10
     go_wp2_with fail
     refine (k3.out _ _ _ _ ?_ ?_).mono ?_
     · (first|rfl|(simp;try omega))
     · (first|exact HA2.out.dropAt _|(simp;exact Wts.empty)|exact Wts.empty|(rw [List.drop_of_length_le (by omega)];exact Wts.empty))
     rintro e w3 ⟨A2,c2,l2,rfl,hm2,hq2,hb3⟩
     have S3:=S2.later hb3
     have hs2:=hb2.size
     have S4:=S3.queue (hq1.wtsIn.below hb3 (Nat.le_refl _)) hq2 hlo hs2 hb3.size
     have HC:=Z9 (And.intro (And.intro hm1 hm2) (And.intro hq1 (And.intro hs2 hlo)))
     clear b10
     have b10:=S3.b10
     have bfz:=S3.bs.frozen
     clear hm1 hm2 hq1 hq2 hb2 hb3 k2 k3 S2 S3 S hlo hs2
     go_upto_region 6 with fail
     generalize w3.setCell _ _=W4 at S4 ⊢
     refine zan (by assumption) ?_
     exact zgh HC.out.2.1.len S4 (by have:=HC.out.2.1.len;omega) HP.out.1 HP.out.2 (fun e w' h=>HR.out _ _ _ _ _ _ _ _ _ _ HC.out.1.1 HC.out.1.2 ⟨by rw [HC.out.2.1.len];exact HC.out.2.1.own.cap,Owns.capm HC.out.2.1.own⟩ (Nat.le_refl _) HC.out.2.2.1 h) _ (Fr.mk rfl ⟨rfl,rfl,rfl,rfl,rfl,trivial⟩)
   · go_wp2_with fail
     refine (k2.out _ _ _ _ ?_ ?_).mono ?_
     · (first|rfl|(simp;try omega))
     · (first|exact HA.out.take _|exact Wts.empty)
     rintro e w2 ⟨A1,c1,l1,rfl,hm1,hq1,hb2⟩
     have S2:=S.later hb2
     have HA2:=Z9 (HA.out.later hb2)
     have hlo:=S.br.lt
     clear b10
     have b10:=S2.b10
     go_wp2_with fail
     refine (k3.out _ _ _ _ ?_ ?_).mono ?_
     · (first|rfl|(simp;try omega))
     · (first|exact HA2.out.dropAt _|(simp;exact Wts.empty)|exact Wts.empty|(rw [List.drop_of_length_le (by omega)];exact Wts.empty))
     rintro e w3 ⟨A2,c2,l2,rfl,hm2,hq2,hb3⟩
     have S3:=S2.later hb3
     have hs2:=hb2.size
     have S4:=S3.queue (hq1.wtsIn.below hb3 (Nat.le_refl _)) hq2 hlo hs2 hb3.size
     have HC:=Z9 (And.intro (And.intro hm1 hm2) (And.intro hq1 (And.intro hs2 hlo)))
     clear b10
     have b10:=S3.b10
     have bfz:=S3.bs.frozen
     clear hm1 hm2 hq1 hq2 hb2 hb3 k2 k3 S2 S3 S hlo hs2
     go_upto_region 6 with fail
     generalize w3.setCell _ _=W4 at S4 ⊢
     refine zan (by assumption) ?_
     exact zgh HC.out.2.1.len S4 (by have:=HC.out.2.1.len;omega) HP.out.1 HP.out.2 (fun e w' h=>HR.out _ _ _ _ _ _ _ _ _ _ HC.out.1.1 HC.out.1.2 ⟨by rw [HC.out.2.1.len];exact HC.out.2.1.own.cap,Owns.capm HC.out.2.1.own⟩ (Nat.le_refl _) HC.out.2.2.1 h) _ (Fr.mk rfl ⟨rfl,rfl,rfl,rfl,rfl,trivial⟩)
 have h4:¬c=p:=by omega
 go_wp2_with fail
 refine (k2.out _ _ _ _ ?_ ?_).mono ?_
 · (first|rfl|(simp;try omega))
 · (first|exact HA.out.take _|exact Wts.empty)
 rintro e w2 ⟨A1,c1,l1,rfl,hm1,hq1,hb2⟩
 have S2:=S.later hb2
 have HA2:=Z9 (HA.out.later hb2)
 have hlo:=S.br.lt
 clear b10
 have b10:=S2.b10
 go_wp2_with fail
 refine (k3.out _ _ _ _ ?_ ?_).mono ?_
 · (first|rfl|(simp;try omega))
 · (first|exact HA2.out.dropAt _|(simp;exact Wts.empty)|exact Wts.empty|(rw [List.drop_of_length_le (by omega)];exact Wts.empty))
 rintro e w3 ⟨A2,c2,l2,rfl,hm2,hq2,hb3⟩
 have S3:=S2.later hb3
 have hs2:=hb2.size
 have S4:=S3.queue (hq1.wtsIn.below hb3 (Nat.le_refl _)) hq2 hlo hs2 hb3.size
 have HC:=Z9 (And.intro (And.intro hm1 hm2) (And.intro hq1 (And.intro hs2 hlo)))
 clear b10
 have b10:=S3.b10
 have bfz:=S3.bs.frozen
 clear hm1 hm2 hq1 hq2 hb2 hb3 k2 k3 S2 S3 S hlo hs2
 go_upto_region 6 with fail
 generalize w3.setCell _ _=W4 at S4 ⊢
 refine zan (by assumption) ?_
 exact zgh HC.out.2.1.len S4 (by have:=HC.out.2.1.len;omega) HP.out.1 HP.out.2 (fun e w' h=>HR.out _ _ _ _ _ _ _ _ _ _ HC.out.1.1 HC.out.1.2 ⟨by rw [HC.out.2.1.len];exact HC.out.2.1.own.cap,Owns.capm HC.out.2.1.own⟩ (Nat.le_refl _) HC.out.2.2.1 h) _ (Fr.mk rfl ⟨rfl,rfl,rfl,rfl,rfl,trivial⟩)
theorem zpm (now:Int) (q:List Jb.Wt):(Jb.due now q).length≤q.length:=(List.takeWhile_sublist _).length_le
theorem zpn (le mo nw:Int) (on:Bool) (ze fi hi dn sp tr:Int) (A:Option Addr) (l:List TW) (n qc:Nat) (la tw pd:Int) (now:Int) (w:World) (hn:l.length=n) (hl:n≤200) (hcap:n≤qc) (hcm:qc≤maxLen) (B:Nat) (hB:B≤w.heap.size) (hA:Wts w B A l) (hp:∀ a∈l,a.w.m.pl.length≤1000000) (hpd : -9223372036854775808≤pd∧pd≤9223372036854775000):Calls Tryz.prog 93 #[.agg #[.int .i64 le, .int .i64 mo, .int .i64 nw, .bool on, .int .i64 ze, .int .i64 fi, .int .i64 hi, .int .i64 dn, .int .i64 sp, .int .i64 tr, .slice A n qc, .int .i64 la, .int .i64 tw, .int .i64 pd], .int .i64 now] w (RunR le mo on ze fi hi dn sp tr (l.map TW.w) la tw pd now w):=by
 replace hA:=hA.more hB
 subst hn
 have S:RB0 w (((w.alloc (.cells #[.int .i64 le, .int .i64 mo, .int .i64 nw, .bool on, .int .i64 ze, .int .i64 fi, .int .i64 hi, .int .i64 dn, .int .i64 sp, .int .i64 tr, .slice A l.length qc, .int .i64 la, .int .i64 tw, .int .i64 pd] 37)).alloc (.cells #[.int .i64 now] 3)).alloc (.cells (JL Jb.Jt.none none 0 0).toArray 37)) (⟨le,mo,nw,on,ze,fi,hi,dn,sp,tr,l.map TW.w,la,tw,pd⟩:Jb.Jt) now A l.length qc:=⟨((Blk.new w _ _).push _).push _,(Blk.new1 _ _ _ _).push _,Blk.new2 _ _ _ _ _,(((Bel.refl w).push _).push _).push _⟩
 have hdl:=zpm now (l.map TW.w)
 rw [List.length_map] at hdl
 obtain ⟨d,hd⟩:∃ d,d=(Jb.due now (l.map TW.w)).length:=⟨_,rfl⟩
 rw [← hd] at hdl
 obtain ⟨q1,q2⟩:=zsr now (l.map TW.w)
 rw [← hd,← List.map_take] at q1
 rw [← hd,← List.map_drop] at q2
 obtain ⟨R,hRR⟩:∃ R:Ending→World→Prop,R=RunR le mo on ze fi hi dn sp tr (l.map TW.w) la tw pd now w:=⟨_,rfl⟩
 rw [← hRR]
 have hR:∀ (W:World),w.heap.size≤W.heap.size→∀ (A1:Option Addr) (c1:Nat) (l1:List TW) (A2:Option Addr) (c2:Nat) (l2:List TW) (lo B:Nat) (e:Ending) (w':World),l1.map TW.w=(l.take d).map TW.w→l2.map TW.w=(l.drop d).map TW.w→l1.length≤c1∧c1≤maxLen→W.heap.size≤lo→lo≤B→RunZ ({ (⟨le,mo,nw,on,ze,fi,hi,dn,sp,tr,l.map TW.w,la,tw,pd⟩:Jb.Jt) with played:=(⟨le,mo,nw,on,ze,fi,hi,dn,sp,tr,l.map TW.w,la,tw,pd⟩:Jb.Jt).played+l1.length,done:=Jb.maxSq (⟨le,mo,nw,on,ze,fi,hi,dn,sp,tr,l.map TW.w,la,tw,pd⟩:Jb.Jt).done (l1.map TW.w),now:=now } : Jb.Jt) A1 c1 l1 A2 c2 l2 lo B w e w'→R e w':=fun W hW A1 c1 l1 A2 c2 l2 lo B e w' h1 h2 hc h3 h4 hz=>by
  rw [hRR]
  exact ⟨A1,c1,l1,A2,c2,l2,B,by rw [hz.1,q1,← h1,List.length_map];rfl,h1.trans q1.symm,h2.trans q2.symm,hz.2.1.less (by omega),hz.2.2.1,by omega,hz.2.2.2.1,hc,hz.2.2.2.2⟩
 have k1:=Z9 fun (W:World) (hW:RB0 w W (⟨le,mo,nw,on,ze,fi,hi,dn,sp,tr,l.map TW.w,la,tw,pd⟩:Jb.Jt) now A l.length qc)=>zno A l l.length qc (w.heap.size+1) now W rfl (by omega) ((hA.below hW.u).more hW.u.size) (hW.bn.at 0 _ rfl) hW.bn.lt
 have HA:=Z9 hA
 have HR:=Z9 hR
 have HD:=Z9 hd
 have HP:=Z9 hp
 obtain ⟨hp0,hp1⟩:=hpd
 clear hA hR hRR hd q1 q2 hp
 go_enter Tryz.func93,Tryz.ntmps93
 go_upto_region 1 with fail
 change Code.wp _ _ _ _ (((w.alloc (.cells #[.int .i64 le, .int .i64 mo, .int .i64 nw, .bool on, .int .i64 ze, .int .i64 fi, .int .i64 hi, .int .i64 dn, .int .i64 sp, .int .i64 tr, .slice A l.length qc, .int .i64 la, .int .i64 tw, .int .i64 pd] 37)).alloc (.cells #[.int .i64 now] 3)).alloc (.cells (JL Jb.Jt.none none 0 0).toArray 37))
 generalize ((w.alloc _).alloc _).alloc _=W0 at S ⊢
 have b10:=S.b10
 go_wp2_with fail
 refine (k1.out _ S).mono ?_
 rintro e w1 ⟨rfl,hb1⟩
 replace S:=S.later hb1
 clear hb1 k1 b10
 have b10:=S.b10
 have hA1:=Z9 ((HA.out.below S.u).more S.u.size)
 unfold firstLate
 rw [← HD.out,List.length_map]
 by_cases hf:d=l.length
 · rw [if_pos hf]
   subst hf
   go_upto_region 4 with fail
   refine zan (by assumption) ?_
   exact ztd (p:=l.length) S hA1.out rfl hl hcap hcm HP.out (Nat.le_refl _) hp0 hp1 (HR.out _ S.u.size) _ (Fr.mk rfl ⟨rfl,rfl,rfl,rfl,trivial⟩)
 · rw [if_neg hf]
   have hd0:¬((d:Int)<0):=by omega
   go_upto_region 4 with fail
   refine zan (by assumption) ?_
   exact ztd (p:=d) S hA1.out rfl hl hcap hcm HP.out hdl hp0 hp1 (HR.out _ S.u.size) _ (Fr.mk rfl ⟨rfl,rfl,rfl,rfl,trivial⟩)
def JV (s:Jb.Jt) (A:Option Addr) (n c:Nat):Value := .agg #[.int .i64 s.least, .int .i64 s.most, .int .i64 s.now, .bool s.on, .int .i64 s.zero, .int .i64 s.first, .int .i64 s.high, .int .i64 s.done, .int .i64 s.spread, .int .i64 s.trans, .slice A n c, .int .i64 s.late, .int .i64 s.twice, .int .i64 s.played]
def JRunR (s:Jb.Jt) (now:Int) (w:World) (e:Ending) (w':World):Prop :=
 ∃ (A1:Option Addr) (c1:Nat) (l1:List TW) (A2:Option Addr) (c2:Nat) (l2:List TW),e = .returned (.tuple #[JV (Jb.run s now).1 A2 l2.length c2, .slice A1 l1.length c1, .int .u8 (Jb.run s now).2.2])∧l1.map TW.w=(Jb.run s now).2.1∧l2.map TW.w=(Jb.run s now).1.q∧Wts w' w'.heap.size A1 l1∧Wts w' w'.heap.size A2 l2∧l2.length≤c2∧c2≤maxLen∧Below w.heap.size w w'∧l1.length≤c1∧c1≤maxLen
def JRunW (s:Jb.Jt) (now:Int) (w:World) (e:Ending) (w':World):Prop :=
 ∃ (A1:Option Addr) (c1:Nat) (l1:List TW) (A2:Option Addr) (c2:Nat) (l2:List TW),e = .returned (.tuple #[JV (Jb.run s now).1 A2 l2.length c2, .slice A1 l1.length c1, .int .u8 (Jb.run s now).2.2])∧l1.map TW.w=(Jb.run s now).2.1∧l2.map TW.w=(Jb.run s now).1.q∧WtsIn w' w.heap.size w'.heap.size A1 l1∧WtsIn w' w.heap.size w'.heap.size A2 l2∧l2.length≤c2∧c2≤maxLen∧Below w.heap.size w w'∧l1.length≤c1∧c1≤maxLen
theorem JRunW.r {s:Jb.Jt} {now:Int} {w w':World} {e:Ending} (h:JRunW s now w e w'):JRunR s now w e w':=by
 obtain ⟨A1,c1,l1,A2,c2,l2,h1,h2,h3,h4,h5,h6⟩:=h
 exact ⟨A1,c1,l1,A2,c2,l2,h1,h2,h3,h4.rows,h5.rows,h6⟩
theorem zkr {s:Jb.Jt} {now:Int} {fm:Bool} (h:Jb.chk s now fm=0):s.ok∧now≤281474976710656∧fm=true∧s.now≤now:=by
 unfold Jb.chk at h
 split at h
 · cases h
 · rename_i h1
   split at h
   · cases h
   · rename_i h2
     refine ⟨?_,?_,?_,by omega⟩
     · by_cases h3:s.ok
       · exact h3
       · exact absurd (Or.inl h3) h1
     · by_cases h3:now≤281474976710656
       · exact h3
       · exact absurd (Or.inr (Or.inl (by omega))) h1
     · cases fm
       · exact absurd (Or.inr (Or.inr rfl)) h1
       · rfl
theorem zks {s:Jb.Jt} {l:List TW} (h:s.ok) (hq:l.map TW.w=s.q):l.length≤200∧∀ a∈l,a.w.m.pl.length≤1500:=by
 obtain ⟨q1,q2,_,_⟩:=(Jb.okQ_iff _ _ _).1 h.2.2.2.2
 refine ⟨by rw [← hq] at q1;simpa using q1,fun a ha => ?_⟩
 exact (q2 a.w (by rw [← hq];exact List.mem_map.2 ⟨a,ha,rfl⟩)).1.2.2
theorem zsj (le mo nw:Int) (on:Bool) (ze fi hi dn sp tr:Int) (A:Option Addr) (l:List TW) (n qc:Nat) (la tw pd:Int) (now:Int) (w:World) (hn:l.length=n) (hl:n≤100000) (hcap:n≤qc) (hcm:qc≤maxLen) (hA:Wts w w.heap.size A l) (hK:∀ a∈l,I64 a.w.m.sq):Calls Tryz.prog 87 #[.agg #[.int .i64 le, .int .i64 mo, .int .i64 nw, .bool on, .int .i64 ze, .int .i64 fi, .int .i64 hi, .int .i64 dn, .int .i64 sp, .int .i64 tr, .slice A n qc, .int .i64 la, .int .i64 tw, .int .i64 pd], .int .i64 now] w (JRunW ⟨le,mo,nw,on,ze,fi,hi,dn,sp,tr,l.map TW.w,la,tw,pd⟩ now w):=by
 subst hn
 obtain ⟨r,hr⟩:∃ r,r=Jb.chk ⟨le,mo,nw,on,ze,fi,hi,dn,sp,tr,l.map TW.w,la,tw,pd⟩ now true:=⟨_,rfl⟩
 have HR:=Z9 hr
 have hU0:Bel w ((w.alloc (.cells #[.int .i64 le, .int .i64 mo, .int .i64 nw, .bool on, .int .i64 ze, .int .i64 fi, .int .i64 hi, .int .i64 dn, .int .i64 sp, .int .i64 tr, .slice A l.length qc, .int .i64 la, .int .i64 tw, .int .i64 pd] 37)).alloc (.cells #[.int .i64 0, .int .i64 0, .int .i64 0, .bool false, .int .i64 0, .int .i64 0, .int .i64 0, .int .i64 0, .int .i64 0, .int .i64 0, .slice none 0 0, .int .i64 0, .int .i64 0, .int .i64 0] 37)):=((Bel.refl w).push _).push _
 have k1:=Z9 fun (W:World) (hW:Bel w W)=>zfe le mo nw on ze fi hi dn sp tr A l l.length qc la tw pd now 0 0 false 0 none 0 0 W rfl hl ((hA.below hW).more hW.size) hK true (by rfl) r hr
 have U0:=Z9 hU0
 have BS:=Z9 ((Blk.new w 37 #[.int .i64 le, .int .i64 mo, .int .i64 nw, .bool on, .int .i64 ze, .int .i64 fi, .int .i64 hi, .int .i64 dn, .int .i64 sp, .int .i64 tr, .slice A l.length qc, .int .i64 la, .int .i64 tw, .int .i64 pd]).push (.cells #[.int .i64 0, .int .i64 0, .int .i64 0, .bool false, .int .i64 0, .int .i64 0, .int .i64 0, .int .i64 0, .int .i64 0, .int .i64 0, .slice none 0 0, .int .i64 0, .int .i64 0, .int .i64 0] 37))
 have BR:=Z9 (Blk.new1 w (.cells #[.int .i64 le, .int .i64 mo, .int .i64 nw, .bool on, .int .i64 ze, .int .i64 fi, .int .i64 hi, .int .i64 dn, .int .i64 sp, .int .i64 tr, .slice A l.length qc, .int .i64 la, .int .i64 tw, .int .i64 pd] 37) 37 #[.int .i64 0, .int .i64 0, .int .i64 0, .bool false, .int .i64 0, .int .i64 0, .int .i64 0, .int .i64 0, .int .i64 0, .int .i64 0, .slice none 0 0, .int .i64 0, .int .i64 0, .int .i64 0])
 have HA:=Z9 hA
 clear hr hU0 hA
 by_cases hr0:r=0
 rotate_left
 · have hne:(r != 0)=true:=by simpa using hr0
   have HN:=Z9 hr0
   clear hr0
   go_enter Tryz.func87,Tryz.ntmps87
   go_wp2_with fail
   refine (k1.out _ U0.out).mono ?_
   rintro e w1 ⟨rfl,hb1⟩
   have U1:=Z9 (U0.out.later hb1)
   have BS1:=Z9 (BS.out.later hb1)
   have BR1:=Z9 (BR.out.later hb1)
   have hs1:=BR1.out.lt
   clear hb1
   have r0:=(BR1.out).at 0 _ rfl
   have r1:=(BR1.out).at 1 _ rfl
   have r2:=(BR1.out).at 2 _ rfl
   have r3:=(BR1.out).at 3 _ rfl
   have r4:=(BR1.out).at 4 _ rfl
   have r5:=(BR1.out).at 5 _ rfl
   have r6:=(BR1.out).at 6 _ rfl
   have r7:=(BR1.out).at 7 _ rfl
   have r8:=(BR1.out).at 8 _ rfl
   have r9:=(BR1.out).at 9 _ rfl
   have r10:=(BR1.out).at 10 _ rfl
   have r11:=(BR1.out).at 11 _ rfl
   have r12:=(BR1.out).at 12 _ rfl
   have r13:=(BR1.out).at 13 _ rfl
   have rfz:=BR1.out.frozen
   go_wp2_with fail
   have BF:=Blk.setRow BR1.out [.int .i64 0, .int .i64 0, .int .i64 0, .bool false, .int .i64 0, .int .i64 0, .int .i64 0, .int .i64 0, .int .i64 0, .int .i64 0, .slice none 0 0, .int .i64 0, .int .i64 0, .int .i64 0] rfl
   have UF:=below_setRow (g:=w.heap.size+1) (by omega) [.int .i64 0, .int .i64 0, .int .i64 0, .bool false, .int .i64 0, .int .i64 0, .int .i64 0, .int .i64 0, .int .i64 0, .int .i64 0, .slice none 0 0, .int .i64 0, .int .i64 0, .int .i64 0] _ 0 U1.out
   simp only [setRow,Nat.zero_add,Nat.reduceAdd] at BF UF
   have hrun:Jb.run ⟨le,mo,nw,on,ze,fi,hi,dn,sp,tr,l.map TW.w,la,tw,pd⟩ now=(Jb.Jt.none,[],r):=by unfold Jb.run;rw [← HR.out,if_neg HN.out]
   refine bodyPost_ret (v := .tuple #[.agg (List.toArray [.int .i64 0, .int .i64 0, .int .i64 0, .bool false, .int .i64 0, .int .i64 0, .int .i64 0, .int .i64 0, .int .i64 0, .int .i64 0, .slice none 0 0, .int .i64 0, .int .i64 0, .int .i64 0]), .slice none 0 0, .int .u8 r]) (zax Tryz.results87 rfl (run_loadVar_row (P:=Tryz.prog) _ _ _ _ _ _ _ BF Tryz.underlying37 rfl (by kernel_rfl)) rfl rfl) rfl ⟨none,0,[],none,0,[],?_,?_,?_,WtsIn.empty,WtsIn.empty,Nat.le_refl _,by unfold maxLen;omega,UF,Nat.le_refl _,Nat.zero_le _⟩
   · rw [hrun];rfl
   · rw [hrun];rfl
   · rw [hrun];rfl
 subst hr0
 obtain ⟨hok,hnow,_,hlt⟩:=zkr HR.out.symm
 obtain ⟨hl2,hpl⟩:=zks (l:=l) hok rfl
 have hpd:=hok.2.2.1.2.2
 simp only at hpd hlt
 have k2:=Z9 fun (W:World) (hW:Bel w W)=>zpn le mo nw on ze fi hi dn sp tr A l l.length qc la tw pd now W rfl hl2 hcap hcm W.heap.size (Nat.le_refl _) ((HA.out.below hW).more hW.size) (fun a ha=>Nat.le_trans (hpl a ha) (by omega)) (by omega)
 have hrun:Jb.run ⟨le,mo,nw,on,ze,fi,hi,dn,sp,tr,l.map TW.w,la,tw,pd⟩ now=(Jb.run0 ⟨le,mo,nw,on,ze,fi,hi,dn,sp,tr,l.map TW.w,la,tw,pd⟩ now,Jb.due now (l.map TW.w),0):=by unfold Jb.run;rw [← HR.out,if_pos rfl]
 have HRUN:=Z9 hrun
 clear hok hnow hlt hpd hl2 hpl hrun
 go_enter Tryz.func87,Tryz.ntmps87
 go_wp2_with fail
 refine (k1.out _ U0.out).mono ?_
 rintro e w1 ⟨rfl,hb1⟩
 have U1:=Z9 (U0.out.later hb1)
 have BS1:=Z9 (BS.out.later hb1)
 have BR1:=Z9 (BR.out.later hb1)
 have hs1:=BR1.out.lt
 clear hb1
 have s0:=(BS1.out).at 0 _ rfl
 have s1:=(BS1.out).at 1 _ rfl
 have s2:=(BS1.out).at 2 _ rfl
 have s3:=(BS1.out).at 3 _ rfl
 have s4:=(BS1.out).at 4 _ rfl
 have s5:=(BS1.out).at 5 _ rfl
 have s6:=(BS1.out).at 6 _ rfl
 have s7:=(BS1.out).at 7 _ rfl
 have s8:=(BS1.out).at 8 _ rfl
 have s9:=(BS1.out).at 9 _ rfl
 have s10:=(BS1.out).at 10 _ rfl
 have s11:=(BS1.out).at 11 _ rfl
 have s12:=(BS1.out).at 12 _ rfl
 have s13:=(BS1.out).at 13 _ rfl
 go_wp2_with fail
 refine (k2.out _ U1.out).mono ?_
 rintro e w2 ⟨A1,c1,l1,A2,c2,l2,B,rfl,hm1,hm2,hw1,hq2,hB1,hB2,hca,qb⟩
 have HCA:=Z9 hca
 clear hca
 have U2:=Z9 (U1.out.later qb)
 have BS2:=Z9 (BS1.out.later qb)
 have BR2:=Z9 (BR1.out.later qb)
 have HM1:=Z9 hm1
 have HM2:=Z9 hm2
 have HW1:=Z9 hw1
 have HQ2:=Z9 hq2
 have hs2:=qb.size
 clear qb hm1 hm2 hw1 hq2 s0 s1 s2 s3 s4 s5 s6 s7 s8 s9 s10 s11 s12 s13
 have s0:=(BS2.out).at 0 _ rfl
 have s1:=(BS2.out).at 1 _ rfl
 have s2:=(BS2.out).at 2 _ rfl
 have s3:=(BS2.out).at 3 _ rfl
 have s4:=(BS2.out).at 4 _ rfl
 have s5:=(BS2.out).at 5 _ rfl
 have s6:=(BS2.out).at 6 _ rfl
 have s7:=(BS2.out).at 7 _ rfl
 have s8:=(BS2.out).at 8 _ rfl
 have s9:=(BS2.out).at 9 _ rfl
 have s10:=(BS2.out).at 10 _ rfl
 have s11:=(BS2.out).at 11 _ rfl
 have s12:=(BS2.out).at 12 _ rfl
 have s13:=(BS2.out).at 13 _ rfl
 have r0:=(BR2.out).at 0 _ rfl
 have r1:=(BR2.out).at 1 _ rfl
 have r2:=(BR2.out).at 2 _ rfl
 have r3:=(BR2.out).at 3 _ rfl
 have r4:=(BR2.out).at 4 _ rfl
 have r5:=(BR2.out).at 5 _ rfl
 have r6:=(BR2.out).at 6 _ rfl
 have r7:=(BR2.out).at 7 _ rfl
 have r8:=(BR2.out).at 8 _ rfl
 have r9:=(BR2.out).at 9 _ rfl
 have r10:=(BR2.out).at 10 _ rfl
 have r11:=(BR2.out).at 11 _ rfl
 have r12:=(BR2.out).at 12 _ rfl
 have r13:=(BR2.out).at 13 _ rfl
 have sfz:=BS2.out.frozen
 have rfz:=BR2.out.frozen
 go_wp2_with fail
 obtain ⟨WA,hWA⟩:∃ WA,WA=setRow w.heap.size w2 0 [.int .i64 le, .int .i64 mo, .int .i64 now, .bool on, .int .i64 ze, .int .i64 fi, .int .i64 hi, .int .i64 (Jb.maxSq dn (Jb.due now (l.map TW.w))), .int .i64 sp, .int .i64 tr, .slice A2 l2.length c2, .int .i64 la, .int .i64 tw, .int .i64 (pd+(Jb.due now (l.map TW.w)).length)]:=⟨_,rfl⟩
 have BA:=BR2.out.farRow (g':=w.heap.size) (by omega) [.int .i64 le, .int .i64 mo, .int .i64 now, .bool on, .int .i64 ze, .int .i64 fi, .int .i64 hi, .int .i64 (Jb.maxSq dn (Jb.due now (l.map TW.w))), .int .i64 sp, .int .i64 tr, .slice A2 l2.length c2, .int .i64 la, .int .i64 tw, .int .i64 (pd+(Jb.due now (l.map TW.w)).length)] w2 0
 have UA:=below_setRow (g:=w.heap.size) (Nat.le_refl _) [.int .i64 le, .int .i64 mo, .int .i64 now, .bool on, .int .i64 ze, .int .i64 fi, .int .i64 hi, .int .i64 (Jb.maxSq dn (Jb.due now (l.map TW.w))), .int .i64 sp, .int .i64 tr, .slice A2 l2.length c2, .int .i64 la, .int .i64 tw, .int .i64 (pd+(Jb.due now (l.map TW.w)).length)] w2 0 U2.out
 have QA:=QOwn.setRow (g:=w.heap.size) (by omega) [.int .i64 le, .int .i64 mo, .int .i64 now, .bool on, .int .i64 ze, .int .i64 fi, .int .i64 hi, .int .i64 (Jb.maxSq dn (Jb.due now (l.map TW.w))), .int .i64 sp, .int .i64 tr, .slice A2 l2.length c2, .int .i64 la, .int .i64 tw, .int .i64 (pd+(Jb.due now (l.map TW.w)).length)] w2 0 HQ2.out
 have SA:=zbs w.heap.size [.int .i64 le, .int .i64 mo, .int .i64 now, .bool on, .int .i64 ze, .int .i64 fi, .int .i64 hi, .int .i64 (Jb.maxSq dn (Jb.due now (l.map TW.w))), .int .i64 sp, .int .i64 tr, .slice A2 l2.length c2, .int .i64 la, .int .i64 tw, .int .i64 (pd+(Jb.due now (l.map TW.w)).length)] w2 0
 have W1A:=WtsIn.setRow (g:=w.heap.size) (lo:=w1.heap.size) (by omega) [.int .i64 le, .int .i64 mo, .int .i64 now, .bool on, .int .i64 ze, .int .i64 fi, .int .i64 hi, .int .i64 (Jb.maxSq dn (Jb.due now (l.map TW.w))), .int .i64 sp, .int .i64 tr, .slice A2 l2.length c2, .int .i64 la, .int .i64 tw, .int .i64 (pd+(Jb.due now (l.map TW.w)).length)] w2 0 HW1.out
 rw [← hWA] at BA UA QA SA W1A
 have BF:=Blk.setRow BA [.int .i64 le, .int .i64 mo, .int .i64 now, .bool on, .int .i64 ze, .int .i64 fi, .int .i64 hi, .int .i64 (Jb.maxSq dn (Jb.due now (l.map TW.w))), .int .i64 sp, .int .i64 tr, .slice A2 l2.length c2, .int .i64 la, .int .i64 tw, .int .i64 (pd+(Jb.due now (l.map TW.w)).length)] rfl
 have UF:=below_setRow (g:=w.heap.size+1) (by omega) [.int .i64 le, .int .i64 mo, .int .i64 now, .bool on, .int .i64 ze, .int .i64 fi, .int .i64 hi, .int .i64 (Jb.maxSq dn (Jb.due now (l.map TW.w))), .int .i64 sp, .int .i64 tr, .slice A2 l2.length c2, .int .i64 la, .int .i64 tw, .int .i64 (pd+(Jb.due now (l.map TW.w)).length)] WA 0 UA
 have QF:=QOwn.setRow (g:=w.heap.size+1) (by omega) [.int .i64 le, .int .i64 mo, .int .i64 now, .bool on, .int .i64 ze, .int .i64 fi, .int .i64 hi, .int .i64 (Jb.maxSq dn (Jb.due now (l.map TW.w))), .int .i64 sp, .int .i64 tr, .slice A2 l2.length c2, .int .i64 la, .int .i64 tw, .int .i64 (pd+(Jb.due now (l.map TW.w)).length)] WA 0 QA
 have SF:=zbs (w.heap.size+1) [.int .i64 le, .int .i64 mo, .int .i64 now, .bool on, .int .i64 ze, .int .i64 fi, .int .i64 hi, .int .i64 (Jb.maxSq dn (Jb.due now (l.map TW.w))), .int .i64 sp, .int .i64 tr, .slice A2 l2.length c2, .int .i64 la, .int .i64 tw, .int .i64 (pd+(Jb.due now (l.map TW.w)).length)] WA 0
 have W1F:=WtsIn.setRow (g:=w.heap.size+1) (lo:=w1.heap.size) (by omega) [.int .i64 le, .int .i64 mo, .int .i64 now, .bool on, .int .i64 ze, .int .i64 fi, .int .i64 hi, .int .i64 (Jb.maxSq dn (Jb.due now (l.map TW.w))), .int .i64 sp, .int .i64 tr, .slice A2 l2.length c2, .int .i64 la, .int .i64 tw, .int .i64 (pd+(Jb.due now (l.map TW.w)).length)] WA 0 W1A
 obtain ⟨WF,hWF⟩:∃ WF,WF=setRow (w.heap.size+1) WA 0 [.int .i64 le, .int .i64 mo, .int .i64 now, .bool on, .int .i64 ze, .int .i64 fi, .int .i64 hi, .int .i64 (Jb.maxSq dn (Jb.due now (l.map TW.w))), .int .i64 sp, .int .i64 tr, .slice A2 l2.length c2, .int .i64 la, .int .i64 tw, .int .i64 (pd+(Jb.due now (l.map TW.w)).length)]:=⟨_,rfl⟩
 rw [← hWF] at BF UF QF SF W1F
 rw [hWA] at hWF
 simp only [setRow,Nat.zero_add,Nat.reduceAdd] at hWF
 rw [← hWF]
 have hcc:=QF.own.cap
 have hcm2:=Owns.capm QF.own
 refine bodyPost_ret (v := .tuple #[.agg (List.toArray [.int .i64 le, .int .i64 mo, .int .i64 now, .bool on, .int .i64 ze, .int .i64 fi, .int .i64 hi, .int .i64 (Jb.maxSq dn (Jb.due now (l.map TW.w))), .int .i64 sp, .int .i64 tr, .slice A2 l2.length c2, .int .i64 la, .int .i64 tw, .int .i64 (pd+(Jb.due now (l.map TW.w)).length)]), .slice A1 l1.length c1, .int .u8 0]) (zax Tryz.results87 rfl (run_loadVar_row (P:=Tryz.prog) _ _ _ _ _ _ _ BF Tryz.underlying37 rfl (by kernel_rfl)) rfl rfl) rfl ⟨A1,c1,l1,A2,c2,l2,?_,?_,?_,(W1F.more ?_).less (by omega),QF.wtsIn.less (by omega),hcc,hcm2,UF,HCA.out.1,HCA.out.2⟩
 · rw [HRUN.out];rfl
 · rw [HRUN.out];exact HM1.out
 · rw [HRUN.out];exact HM2.out
 · rw [SF,SA];exact hB2
def ordV (a:Jb.Wt) (at0 sq0:Int):Int:=if a.at_<at0 then -1 else if at0<a.at_ then 1 else if a.m.sq<sq0 then -1 else if sq0<a.m.sq then 1 else 0
theorem zkt (a x:Jb.Wt):ordV a x.at_ x.m.sq<0↔Jb.bef a x:=by
 unfold ordV Jb.bef
 constructor
 · intro h
   repeat (first|(split at h)|omega)
 · intro h
   repeat (first|split|omega)
theorem zvs (a x:Jb.Wt) (h:a.m.sq≠x.m.sq):ordV a x.at_ x.m.sq≠0:=by
 unfold ordV
 repeat (first|split|omega)
def place (q:List Jb.Wt) (x:Jb.Wt):Nat:=(q.takeWhile fun y=>decide (Jb.bef y x)).length
theorem zku (x:Jb.Wt):∀ (q:List Jb.Wt) (k:Nat),k≤q.length→(∀ i (h:i<q.length),i<k→Jb.bef q[i] x)→(∀ i (h:i<q.length),k≤i→¬Jb.bef q[i] x)→place q x=k
 | [],k,hk,_,_=>by simp at hk;subst hk;rfl
 | a :: q, 0, _, _, h2 => by
   have:=h2 0 (by simp) (by omega)
   unfold place
   rw [List.takeWhile_cons,if_neg (by simpa using this)]
   rfl
 | a :: q, k + 1, hk, h1, h2 => by
   have h0:=h1 0 (by simp) (by omega)
   have ih:=zku x q k (by simpa using hk) (fun i h hi=>by have:=h1 (i+1) (by simp;omega) (by omega);simpa using this) (fun i h hi=>by have:=h2 (i+1) (by simp;omega) (by omega);simpa using this)
   unfold place at ih ⊢
   rw [List.takeWhile_cons,if_pos (by simpa using h0)]
   simp [ih]
theorem zjm (q:List Jb.Wt) (x:Jb.Wt):Jb.ins q x=q.take (place q x)++x::q.drop (place q x):=by
 have h:(q.takeWhile fun y=>decide (Jb.bef y x))++(q.dropWhile fun y=>decide (Jb.bef y x))=q:=List.takeWhile_append_dropWhile
 unfold Jb.ins place
 obtain ⟨a,ha⟩:∃ a,a=q.takeWhile fun y=>decide (Jb.bef y x):=⟨_,rfl⟩
 obtain ⟨b,hb⟩:∃ b,b=q.dropWhile fun y=>decide (Jb.bef y x):=⟨_,rfl⟩
 rw [← ha,← hb] at h ⊢
 rw [← h,List.take_left,List.drop_left]
theorem zsk (q:List Jb.Wt) (x:Jb.Wt):place q x≤q.length:=(List.takeWhile_prefix _).length_le
theorem zjn (A:Option Addr) (l:List TW) (n c:Nat) (x:Jb.Wt) (B0:Option Addr) (n0 c0:Nat) (w:World) (hn:l.length=n) (hl:n≤100000) (hA:Wts w w.heap.size A l) (hasc:(l.map TW.w).Pairwise Jb.bef) (hne:∀ y∈l.map TW.w,y.m.sq≠x.m.sq):Calls Tryz.prog 99 #[.slice A n c, .agg #[.int .i64 x.at_, .int .i64 x.m.sq, .int .i64 x.m.ti, .bool x.m.mrk, .int .u8 x.m.ty, .slice B0 n0 c0], .func (Fn.func 100) #[] #[]] w fun e w'=>e = .returned (.tuple #[.int .i64 (place (l.map TW.w) x), .bool false])∧Below w.heap.size w w':=by
 subst hn
 obtain ⟨P,hP⟩:∃ P,P=place (l.map TW.w) x:=⟨_,rfl⟩
 rw [← hP]
 have HP:=Z9 hP
 have HA:=Z9 hA
 have HASC:=Z9 hasc
 have HNE:=Z9 hne
 have HORD:=Z9 (zkt)
 obtain ⟨⟨at0,⟨sq0,ti0,mk0,ty0,pl0⟩⟩,hX⟩:∃ y,y=x:=⟨x,rfl⟩
 subst hX
 simp only at HP HASC HNE ⊢
 clear hP hA hasc hne
 have BX:=Z9 (Blk.new w 220 #[.int .i64 at0, .int .i64 sq0, .int .i64 ti0, .bool mk0, .int .u8 ty0, .slice B0 n0 c0])
 have U0:=Z9 ((Bel.refl w).push (.cells #[.int .i64 at0, .int .i64 sq0, .int .i64 ti0, .bool mk0, .int .u8 ty0, .slice B0 n0 c0] 220))
 go_enter Tryz.func99,Tryz.ntmps99
 go_wp2_with fail
 go_loopg [9,10] l.length (fun gk i j wr => ∃ a b:Nat,gk=b-a∧i = .int .i64 a∧j = .int .i64 b∧a≤b∧b≤l.length∧Hid (∀ k (h:k<(l.map TW.w).length),k<a→Jb.bef (l.map TW.w)[k] ⟨at0,⟨sq0,ti0,mk0,ty0,pl0⟩⟩)∧Hid (∀ k (h:k<(l.map TW.w).length),b≤k→¬Jb.bef (l.map TW.w)[k] ⟨at0,⟨sq0,ti0,mk0,ty0,pl0⟩⟩)∧Hid (Blk wr w.heap.size 220 #[.int .i64 at0, .int .i64 sq0, .int .i64 ti0, .bool mk0, .int .u8 ty0, .slice B0 n0 c0])∧Hid (Bel w wr))
 case atStart=>exact ⟨0,l.length,rfl,rfl,rfl,by omega,by omega,Z9 (fun k h hk=>absurd hk (by omega)),Z9 (fun k h hk=>absurd h (by simp;omega)),BX,U0⟩
 case round =>
  obtain ⟨a,b,hgk,rfl,rfl,hab,hbn,HL,HG,BXr,U⟩:=hrel
  have ha0:(0:Int)≤(a:Int):=by omega
  have hb0:(0:Int)≤(b:Int):=by omega
  have hb1:(b:Int)≤(l.length:Int):=by omega
  by_cases hlt:a<b
  rotate_left
  · obtain rfl:a=b:=by omega
    have hpp:P=a:=by rw [HP.out];exact zku _ _ a (by simp;omega) HL.out HG.out
    subst hpp
    by_cases han:P<l.length
    rotate_left
    · obtain rfl:P=l.length:=by omega
      have hd1:decide ((l.length:Int)<(l.length:Int))=false:=by simp
      go_wp2_with fail
      go_quiet (fail)
      go_wp2_with fail
      go_ret2
      exact ⟨by first|rfl|simp,U.out.drewN _⟩
    have han1:(P:Int)<(l.length:Int):=by omega
    have hle:(P:Int)≤(P:Int):=Int.le_refl _
    obtain ⟨a9,ha9⟩:∃ a,l[P]? = some a:=⟨_,List.getElem?_eq_getElem (by omega)⟩
    obtain ⟨bq,oq,rfl,hbq,q0,q1,q2,q3,q4,q5⟩:=zen (HA.out.1.keep (fun p hp=>U.out.cell hp)) ha9
    have hm9:(l.map TW.w)[P]? = some a9.w:=by rw [List.getElem?_map,ha9];rfl
    have HM9:=Z9 hm9
    obtain ⟨⟨at9,⟨sq9,ti9,mk9,ty9,pl9⟩⟩,B9,c9⟩:=a9
    simp only at q0 q1 q2 q3 q4 q5 HM9
    clear ha9 hm9
    have k2:=Z9 fun W=>zeo at9 sq9 ti9 ty9 at0 sq0 ti0 ty0 mk9 mk0 B9 B0 pl9.length c9 n0 c0 W
    obtain ⟨R,hR⟩:∃ R:Int,R=if at9<at0 then -1 else if at0<at9 then 1 else if sq9<sq0 then -1 else if sq0<sq9 then 1 else 0:=⟨_,rfl⟩
    rw [← hR] at k2
    have HR:Hid (R=ordV ⟨at9,⟨sq9,ti9,mk9,ty9,pl9⟩⟩ at0 sq0):=Z9 hR
    clear hR
    have f0:=BXr.out.at 0 _ rfl
    have f1:=BXr.out.at 1 _ rfl
    have f2:=BXr.out.at 2 _ rfl
    have f3:=BXr.out.at 3 _ rfl
    have f4:=BXr.out.at 4 _ rfl
    have f5:=BXr.out.at 5 _ rfl
    have hbx:=BXr.out.lt
    have hU:Below wr.heap.size wr wr:=Below.refl _ _
    have hd1:decide ((P:Int)<(l.length:Int))=true:=by simpa using han
    have hRn:(R==0)=false:=by
     have h7:=zvs ⟨at9,⟨sq9,ti9,mk9,ty9,pl9⟩⟩ ⟨at0,⟨sq0,ti0,mk0,ty0,pl0⟩⟩ (HNE.out _ (List.mem_of_getElem? HM9.out))
     rw [← HR.out] at h7
     simpa using h7
    go_wp2_with fail
    go_region_held3 (fun w'=>Below wr.heap.size wr w'∧w'.cell? ⟨w.heap.size,0,none⟩=some (.int .i64 at0)∧w'.cell? ⟨w.heap.size,1,none⟩=some (.int .i64 sq0)∧w'.cell? ⟨w.heap.size,2,none⟩=some (.int .i64 ti0)∧w'.cell? ⟨w.heap.size,3,none⟩=some (.bool mk0)∧w'.cell? ⟨w.heap.size,4,none⟩=some (.int .u8 ty0)∧w'.cell? ⟨w.heap.size,5,none⟩=some (.slice B0 n0 c0)∧w'.cell? ⟨bq,oq+P*6,none⟩=some (.int .i64 at9)∧w'.cell? ⟨bq,oq+P*6+1,none⟩=some (.int .i64 sq9)∧w'.cell? ⟨bq,oq+P*6+2,none⟩=some (.int .i64 ti9)∧w'.cell? ⟨bq,oq+P*6+3,none⟩=some (.bool mk9)∧w'.cell? ⟨bq,oq+P*6+4,none⟩=some (.int .u8 ty9)∧w'.cell? ⟨bq,oq+P*6+5,none⟩=some (.slice B9 pl9.length c9))
     (first|assumption|((try go_split_ands);refine zbv ?_ (fun hbX=>⟨zag hbX f0,zag hbX f1,zag hbX f2,zag hbX f3,zag hbX f4,zag hbX f5,zag hbX q0,zag hbX q1,zag hbX q2,zag hbX q3,zag hbX q4,zag hbX q5⟩);(with_reducible repeat first|assumption|exact zak (by assumption) (by assumption)|refine Below.drew ?_|refine zah ?_ _)))
     (first|(go_at_call 100;refine (k2.out _).mono ?_;rintro e w' ⟨rfl,qb⟩;have hbw:Below wr.heap.size wr w':=zak qb (by (try go_split_ands);assumption);obtain ⟨hcc,hff⟩:=ztj qb))
    all_goals
     have UZ:=Z9 (U.out.later hbw)
     have BZ:=Z9 (BXr.out.later hbw)
     clear hcc hff hbw qb q0 q1 q2 q3 q4 q5 f0 f1 f2 f3 f4 f5 hU
     go_wp2_with fail
     go_ret2
     exact ⟨by first|rfl|simp,UZ.out⟩
  obtain ⟨h,hh⟩:∃ h,h=(a+b) / 2:=⟨_,rfl⟩
  have he:((a:Int)+(b:Int)) / 2=(h:Int):=by omega
  have hh0:(0:Int)≤(h:Int):=by omega
  have hh1:(h:Int)<(l.length:Int):=by omega
  have hlt1:(a:Int)<(b:Int):=by omega
  have hah:a≤h:=by omega
  have hhb:h<b:=by omega
  clear hh
  go_wp2_with fail
  obtain ⟨a9,ha9⟩:∃ a,l[h]? = some a:=⟨_,List.getElem?_eq_getElem (by omega)⟩
  obtain ⟨bq,oq,rfl,hbq,q0,q1,q2,q3,q4,q5⟩:=zen (HA.out.1.keep (fun p hp=>U.out.cell hp)) ha9
  have hm9:(l.map TW.w)[h]? = some a9.w:=by rw [List.getElem?_map,ha9];rfl
  have HM9:=Z9 hm9
  obtain ⟨⟨at9,⟨sq9,ti9,mk9,ty9,pl9⟩⟩,B9,c9⟩:=a9
  simp only at q0 q1 q2 q3 q4 q5 HM9
  clear ha9 hm9
  have k2:=Z9 fun W=>zeo at9 sq9 ti9 ty9 at0 sq0 ti0 ty0 mk9 mk0 B9 B0 pl9.length c9 n0 c0 W
  obtain ⟨R,hR⟩:∃ R:Int,R=if at9<at0 then -1 else if at0<at9 then 1 else if sq9<sq0 then -1 else if sq0<sq9 then 1 else 0:=⟨_,rfl⟩
  rw [← hR] at k2
  have HR:Hid (R=ordV ⟨at9,⟨sq9,ti9,mk9,ty9,pl9⟩⟩ at0 sq0):=Z9 hR
  clear hR
  have f0:=BXr.out.at 0 _ rfl
  have f1:=BXr.out.at 1 _ rfl
  have f2:=BXr.out.at 2 _ rfl
  have f3:=BXr.out.at 3 _ rfl
  have f4:=BXr.out.at 4 _ rfl
  have f5:=BXr.out.at 5 _ rfl
  have hbx:=BXr.out.lt
  have hU:Below wr.heap.size wr wr:=Below.refl _ _
  go_region_held3 (fun w'=>Below wr.heap.size wr w'∧w'.cell? ⟨w.heap.size,0,none⟩=some (.int .i64 at0)∧w'.cell? ⟨w.heap.size,1,none⟩=some (.int .i64 sq0)∧w'.cell? ⟨w.heap.size,2,none⟩=some (.int .i64 ti0)∧w'.cell? ⟨w.heap.size,3,none⟩=some (.bool mk0)∧w'.cell? ⟨w.heap.size,4,none⟩=some (.int .u8 ty0)∧w'.cell? ⟨w.heap.size,5,none⟩=some (.slice B0 n0 c0)∧w'.cell? ⟨bq,oq+h*6,none⟩=some (.int .i64 at9)∧w'.cell? ⟨bq,oq+h*6+1,none⟩=some (.int .i64 sq9)∧w'.cell? ⟨bq,oq+h*6+2,none⟩=some (.int .i64 ti9)∧w'.cell? ⟨bq,oq+h*6+3,none⟩=some (.bool mk9)∧w'.cell? ⟨bq,oq+h*6+4,none⟩=some (.int .u8 ty9)∧w'.cell? ⟨bq,oq+h*6+5,none⟩=some (.slice B9 pl9.length c9))
   (first|assumption|((try go_split_ands);refine zbv ?_ (fun hbX=>⟨zag hbX f0,zag hbX f1,zag hbX f2,zag hbX f3,zag hbX f4,zag hbX f5,zag hbX q0,zag hbX q1,zag hbX q2,zag hbX q3,zag hbX q4,zag hbX q5⟩);(with_reducible repeat first|assumption|exact zak (by assumption) (by assumption)|refine Below.drew ?_|refine zah ?_ _)))
   (first|(go_at_call 100;refine (k2.out _).mono ?_;rintro e w' ⟨rfl,qb⟩;have hbw:Below wr.heap.size wr w':=zak qb (by (try go_split_ands);assumption);obtain ⟨hcc,hff⟩:=ztj qb))
  all_goals
   have UZ:=Z9 (U.out.later hbw)
   have BZ:=Z9 (BXr.out.later hbw)
   clear hcc hff hbw qb q0 q1 q2 q3 q4 q5 f0 f1 f2 f3 f4 f5 hU
   have hdo:Jb.bef ((l.map TW.w)[h]'(by simp;omega)) ⟨at0,⟨sq0,ti0,mk0,ty0,pl0⟩⟩↔R<0:=by
    have h7:=(List.getElem?_eq_some_iff.1 HM9.out).2
    rw [h7,HR.out]
    exact (zkt ⟨at9,⟨sq9,ti9,mk9,ty9,pl9⟩⟩ ⟨at0,⟨sq0,ti0,mk0,ty0,pl0⟩⟩).symm
   have HDO:=Z9 hdo
   clear hdo
   by_cases hR0:R<0
   · go_wp2_with fail
     go_roundg (b-(h+1))
     case measure=>omega
     case rel =>
      refine ⟨h+1,b,rfl,by go_num,rfl,by omega,hbn,Z9 (fun k hk hk2 => ?_),HG,BZ,UZ⟩
      by_cases hk3:k=h
      · subst hk3;exact HDO.out.2 hR0
      · exact Jb.bef_trans (List.pairwise_iff_getElem.1 HASC.out k h hk (by simp;omega) (by omega)) (HDO.out.2 hR0)
   · have hR1:0≤R:=by omega
     go_wp2_with fail
     go_roundg (h-a)
     case measure=>omega
     case rel =>
      refine ⟨a,h,rfl,rfl,rfl,by omega,by omega,HL,Z9 (fun k hk hk2 hbef => ?_),BZ,UZ⟩
      by_cases hk3:k=h
      · subst hk3;exact absurd (HDO.out.1 hbef) (by omega)
      · exact absurd (HDO.out.1 (Jb.bef_trans (List.pairwise_iff_getElem.1 HASC.out h k (by simp;omega) hk (by omega)) hbef)) (by omega)
theorem zbr {P:Program} (w:World) (dT sT ty elem:TypeId) (size:Nat) (g o dLen dCap:Nat) (a:Addr) (sLen sCap:Nat) (cur:Array Value) (t:TypeId) (cs:List Value)
 (hu:P.underlying dT=some (.slice elem)) (hs:(P.info? elem).map (·.size)=some size)
 (hg:w.heap[g]? = some (.cells cur t (0,0))) (hn:cs.length=Nat.min sLen dLen*size)
 (hsrc:∀ j v,cs[j]? = some v→w.cell? (a.add j)=some v) (hfit:o+cs.length≤cur.size) (h1:∀ v∈cs,v.oneCell'=true) :
 (Builtin.copy_ #[dT,sT] ty #[.slice (some ⟨g,o,none⟩) dLen dCap, .slice (some a) sLen sCap]).run P w =
  .ok (goInt (Nat.min sLen dLen)) (w.setRow g (cur.toList.take o++cs++cur.toList.drop (o+cs.length)).toArray):=by
 have hl:=run_loadCells_list (P:=P) w a cs hsrc
 have hst:=run_storeCells_at P g o t cs 0 cur w hg (by simpa using hfit) h1
 cases hq:P.info? elem with
 | none=>simp [hq] at hs
 | some i =>
   have hi:i.size=size:=by simpa [hq] using hs
   simp [Builtin.copy_,run_underlying hu,Builtin.lenOf,Builtin.firstCells,sizeOf,typeInfo,hq,hi,← hn,hl,hst]
theorem zxm (w:World):(Go.sizeOf 220).run Tryz.prog w = .ok 6 w:=by kernel_rfl
theorem zfo (w:World) (vb off m vc g o lb cb:Nat) (hne:vb≠g) (tA tB:TypeId) (kA kB:Nat) (hsa:w.shape? vb=some (tA,kA)) (hsb:w.shape? g=some (tB,kB)) (hkB:kB≠0) (hfa:w.frozen? ⟨vb,off,none⟩=false) (hfe:w.frozen? ⟨vb,kA,none⟩=false) :
 (callFunc 130 #[.slice (some ⟨vb,off,none⟩) m vc, .slice (some ⟨g,o,none⟩) lb cb]).run Tryz.prog w = .ok (.value (.bool false)) w:=by
 rw [run_callFunc_extern Tryz.func130 (by kernel_rfl) (by kernel_rfl) (by kernel_rfl) (e:=Extern.SlicesOverlaps.overlaps #[35,35] #[4]) (by kernel_rfl),
  Lib.run_overlaps_apart w 35 4 220 Tryz.underlying35 6 zxm ⟨vb,off,none⟩ ⟨g,o,none⟩ m vc lb cb hne tA tB kA kB hsa hsb hkB hfa hfe]
 rfl
theorem zsl {α : Type} (L cs:List α) (i n c k:Nat) (hk:cs.length=k) (hi:i<n) (hn:n+1≤c) (hL:L.length=c*k) :
 ((L.take ((i + 1) * k) ++ (L.drop (i * k)).take ((n - i) * k) ++ L.drop ((i + 1) * k + (n - i) * k)).take (i * k) ++ cs ++ (L.take ((i + 1) * k) ++ (L.drop (i * k)).take ((n - i) * k) ++ L.drop ((i + 1) * k + (n - i) * k)).drop (i * k + k)) =
   L.take (i*k)++cs++(L.drop (i*k)).take ((n-i)*k)++L.drop ((n+1)*k):=by
 have e1:(i+1)*k=i*k+k:=by rw [Nat.add_mul,Nat.one_mul]
 have e2:(i+1)*k+(n-i)*k=(n+1)*k:=by rw [← Nat.add_mul];congr 1;omega
 have hle:(i+1)*k≤L.length:=by rw [hL];exact Nat.mul_le_mul_right k (by omega)
 have hl:(L.take ((i+1)*k)).length=i*k+k:=by rw [List.length_take,← e1];omega
 rw [e2]
 have h1:(L.take ((i+1)*k)++(L.drop (i*k)).take ((n-i)*k)++L.drop ((n+1)*k)).take (i*k)=L.take (i*k):=by
  rw [List.append_assoc,List.take_append_of_le_length (by rw [hl];omega),List.take_take,Nat.min_eq_left (by omega)]
 have h2:(L.take ((i+1)*k)++(L.drop (i*k)).take ((n-i)*k)++L.drop ((n+1)*k)).drop (i*k+k)=(L.drop (i*k)).take ((n-i)*k)++L.drop ((n+1)*k):=by
  rw [List.append_assoc,← hl,List.drop_left]
 rw [h1,h2]
 simp
theorem Blk.shape {w:World} {g:Nat} {t:TypeId} {cs:Array Value} (h:Blk w g t cs):w.shape? g=some (t,cs.size):=by
 unfold Blk at h
 simp [World.shape?,h]
theorem zjo (g n c i vb:Nat) (cur:Array Value) (cs:List Value) (w:World) (hi:i<n) (hroom:n+1≤c) (hcm:c≤maxLen) (hne:vb≠g) (hB:Blk w g 220 cur) (hV:Blk w vb 220 cs.toArray) (hcl:cs.length=6) (hcur:cur.size=c*6) (h1:∀ v∈cur.toList.take (n*6),v.oneCell'=true) (h2:∀ v∈cs,v.oneCell'=true) :
 Calls Tryz.prog 101 #[.slice (some ⟨g,0,none⟩) n c, .int .i64 i, .slice (some ⟨vb,0,none⟩) 1 1] w fun e w'=>e = .returned (.slice (some ⟨g,0,none⟩) (n+1) c)∧Blk w' g 220 (cur.toList.take (i*6)++(cs++((cur.toList.drop (i*6)).take ((n-i)*6)++cur.toList.drop ((n+1)*6)))).toArray∧w.grownBy w' (some g):=by
 unfold maxLen at hcm
 have hov0:=fun (o lb cb:Nat)=>zfo w vb 0 1 1 g o lb cb hne _ _ _ _ hV.shape hB.shape (by rw [hcur];omega) (hV.frozen 0) (hV.frozen _)
 have hz2:¬((i:Int)=(n:Int)):=by omega
 have hw1:IntKind.i64.wrap ((i:Int)+1)=(i:Int)+1:=zaw _ (by omega) (by omega)
 have hw2:IntKind.i64.wrap ((n:Int)+1)=(n:Int)+1:=zaw _ (by omega) (by omega)
 have hin:i≤n:=by omega
 have hb1:(0:Int)≤(i:Int)+1:=by omega
 have htn:((i:Int)+1).toNat=i+1:=by omega
 have hb2:¬(c=i+1):=by omega
 have hb3:(i:Int)≤(n:Int)+1:=by omega
 have hb4:¬(c=i):=by omega
 have hb5:(n:Int)+1≤(c:Int):=by omega
 have HB:=Z9 hB
 have HV:=Z9 hV
 have HCL:=Z9 hcl
 have HCUR:=Z9 hcur
 have H1:=Z9 h1
 have H2:=Z9 h2
 clear hB hV hcl hcur h1 h2
 obtain ⟨C1,hC1⟩:∃ C1:List Value,C1=(cur.toList.drop (i*6)).take ((n-i)*6):=⟨_,rfl⟩
 have hlc:cur.toList.length=c*6:=by simpa using HCUR.out
 have hC1l:C1.length=(n-i)*6:=by rw [hC1,List.length_take,List.length_drop,hlc];omega
 have hsz:(Tryz.prog.info? 220).map (·.size)=some 6:=by kernel_rfl
 have hcp1:∀ ty dc sc,(Builtin.copy_ #[35,35] ty #[.slice (some ⟨g,(i+1)*6,none⟩) (n-i) dc, .slice (some ⟨g,i*6,none⟩) (n+1-i) sc]).run Tryz.prog w.drew = .ok (goInt (Nat.min (n+1-i) (n-i))) (w.drew.setRow g (cur.toList.take ((i+1)*6)++C1++cur.toList.drop ((i+1)*6+C1.length)).toArray):=fun ty dc sc =>
  zbr w.drew _ _ ty 220 6 g ((i+1)*6) (n-i) dc ⟨g,i*6,none⟩ (n+1-i) sc cur 220 C1 Tryz.underlying35 hsz HB.out (by rw [hC1l,show Nat.min (n+1-i) (n-i)=n-i by simp only [Nat.min_def];split<;>omega])
   (fun j v hj=>by
    have h9:=HB.out.cell (i*6+j)
    rw [hC1,List.getElem?_take] at hj
    split at hj
    · rw [List.getElem?_drop] at hj
      rw [Addr.add_lit]
      exact h9.trans (by simpa using hj)
    · cases hj)
   (by rw [hC1l,HCUR.out];omega)
   (fun v hv=>by
    rw [hC1,show (n-i)*6=n*6-i*6 by omega,← List.drop_take] at hv
    exact H1.out v (List.mem_of_mem_drop hv))
 obtain ⟨R1,hR1⟩:∃ R1:List Value,R1=cur.toList.take ((i+1)*6)++C1++cur.toList.drop ((i+1)*6+C1.length):=⟨_,rfl⟩
 have hR1l:R1.length=c*6:=by rw [hR1,hC1l];simp only [List.length_append,List.length_take,List.length_drop,hlc,hC1l];omega
 rw [← hR1] at hcp1
 obtain ⟨W1,hW1⟩:∃ W1,W1=w.drew.setRow g R1.toArray:=⟨_,rfl⟩
 have hB1:Blk W1 g 220 R1.toArray:=by rw [hW1];exact setRow_heap w.drew g cur R1.toArray _ _ HB.out
 have hV1:Blk W1 vb 220 cs.toArray:=by rw [hW1];exact (setRow_other w.drew g vb R1.toArray hne).trans HV.out
 rw [← hW1] at hcp1
 have hcp2:∀ (W:World),W.heap=W1.heap→∀ ty dc,(Builtin.copy_ #[35,35] ty #[.slice (some ⟨g,i*6,none⟩) (n+1-i) dc, .slice (some ⟨vb,0,none⟩) 1 1]).run Tryz.prog W = .ok (goInt (Nat.min 1 (n+1-i))) (W.setRow g (R1.take (i*6)++cs++R1.drop (i*6+cs.length)).toArray):=fun W hW ty dc=>by
  have hBW:Blk W g 220 R1.toArray:=by unfold Blk;rw [hW];exact hB1
  have hVW:Blk W vb 220 cs.toArray:=by unfold Blk;rw [hW];exact hV1
  have:=zbr (P:=Tryz.prog) W 35 35 ty 220 6 g (i*6) (n+1-i) dc ⟨vb,0,none⟩ 1 1 R1.toArray 220 cs Tryz.underlying35 hsz hBW (by rw [HCL.out,show Nat.min 1 (n+1-i)=1 by simp only [Nat.min_def];split<;>omega])
   (fun j v hj=>by rw [Addr.add_lit,hVW.cell];simpa using hj) (by rw [HCL.out];simp [hR1l];omega) H2.out
  exact this
 have hfin:R1.take (i*6)++cs++R1.drop (i*6+cs.length)=cur.toList.take (i*6)++(cs++((cur.toList.drop (i*6)).take ((n-i)*6)++cur.toList.drop ((n+1)*6))):=by
  have:=zsl cur.toList cs i n c 6 HCL.out hi hroom hlc
  rw [hR1,hC1l,hC1,HCL.out]
  rw [this]
  simp only [List.append_assoc]
 rw [hfin] at hcp2
 have HB1:=Z9 hB1
 have HW1:=Z9 hW1
 clear hC1l hlc hR1l hfin hB1 hV1 hW1 hR1 hC1 hsz
 have hcp2a:=fun ty dc=>hcp2 W1 rfl ty dc
 go_enter Tryz.func101,Tryz.ntmps101
 go_wp2_with (simp only [hov0])
 go_region_law (refine step_copy_runI rfl _ _ 35 35 rfl _ _ (by simp [Act.eval,Act.put]) (by simp [Act.eval,Act.put]) (hcp1 _ _ _) ?_)
 go_wp2_with (at_builtin;refine wpList_copy_runI _ rfl _ _ 35 35 rfl _ _ rfl rfl (hcp2 _ rfl _ _) ?_)
 go_ret
 refine ⟨by first|rfl|simp,?_,?_⟩
 · exact setRow_heap W1 g R1.toArray _ _ _ HB1.out
 · rw [HW1.out]
   refine ⟨rfl,rfl,rfl,by simp,fun k hk hne2 => ?_⟩
   have hkg:k≠g:=fun e=>hne2 (by rw [e])
   rw [setRow_other _ _ _ _ hkg,setRow_other _ _ _ _ hkg]
   rfl
def InsR (base:Nat) (A:Option Addr) (n:Nat) (ys:List Value) (w:World) (e:Ending) (w':World):Prop :=
 ∃ (A':Option Addr) (c':Nat),e = .returned (.slice A' (n+1) c')∧Owns w' base 220 6 A' (n+1) c' ys∧w.grownBy w' (ownB A)∧(ownB A'=ownB A∨∀ g,ownB A'=some g→w.heap.size≤g)
theorem zmo (base n c vb:Nat) (A:Option Addr) (xs cs:List Value) (w:World) (hn:n≤100000) (hbase:base≤w.heap.size) (hO:Owns w base 220 6 A n c xs) (hV:Blk w vb 220 cs.toArray) (hcl:cs.length=6) (h2:∀ v∈cs,v.oneCell'=true) :
 Calls Tryz.prog 101 #[.slice A n c, .int .i64 n, .slice (some ⟨vb,0,none⟩) 1 1] w (InsR base A n (xs++cs) w):=by
 obtain ⟨i,hi,hz0,hz1,hz2⟩:=info_parts znp
 have hcap:=hO.cap
 have hcm:=Owns.capm hO
 unfold maxLen at hcm
 have hnn:(n:Int)≤(n:Int):=Int.le_refl _
 have hnc:(n:Int)≤(c:Int):=by omega
 have hn0:(0:Int)≤(n:Int):=by omega
 have HO:=Z9 hO
 have HV:=Z9 hV
 have HCL:=Z9 hcl
 have H2:=Z9 h2
 have HI:=Z9 hi
 have HZ0:=Z9 hz0
 have HZ1:=Z9 hz1
 have HZ2:=Z9 hz2
 clear hO hV hcl h2 hi hz0 hz1 hz2
 by_cases hq:c=n
 · have hq':n=c:=hq.symm
   clear hq
   subst hq'
   go_enter Tryz.func101,Tryz.ntmps101
   go_wp2_with (at_builtin;refine wpList_append_lies w rfl _ _ 35 rfl base 220 i _ 6 56 Tryz.underlying35 HI.out HZ0.out HZ1.out HZ2.out rfl (by decide) (.slice A n n) n xs rfl HO.out ⟨vb,0,none⟩ 1 1 cs rfl (by rw [HCL.out]) (fun j u hj=>by rw [Addr.add_lit];exact (HV.out.cell _).trans (by simpa using hj)) H2.out (by decide) (by unfold maxLen;omega) (by omega) hbase _ rfl ?_;intro g' cap w' hown' hg hat hlt)
   go_ret
   exact ⟨some ⟨g',0,none⟩,cap,by first|rfl|simp,hown',by rw [zbp] at hg;exact hg,by rw [zbp] at hat;rcases hat with e|e;exact .inl e.symm;exact .inr fun g hg'=>by injection hg' with hg';rw [← hg',e];exact Nat.le_refl _⟩
 · go_enter Tryz.func101,Tryz.ntmps101
   go_wp2_with (at_builtin;refine wpList_append_lies w rfl _ _ 35 rfl base 220 i _ 6 56 Tryz.underlying35 HI.out HZ0.out HZ1.out HZ2.out rfl (by decide) (.slice A n c) n xs rfl HO.out ⟨vb,0,none⟩ 1 1 cs rfl (by rw [HCL.out]) (fun j u hj=>by rw [Addr.add_lit];exact (HV.out.cell _).trans (by simpa using hj)) H2.out (by decide) (by unfold maxLen;omega) (by omega) hbase _ rfl ?_;intro g' cap w' hown' hg hat hlt)
   go_ret
   exact ⟨some ⟨g',0,none⟩,cap,by first|rfl|simp,hown',by rw [zbp] at hg;exact hg,by rw [zbp] at hat;rcases hat with e|e;exact .inl e.symm;exact .inr fun g hg'=>by injection hg' with hg';rw [← hg',e];exact Nat.le_refl _⟩
theorem zjp (g n i vb:Nat) (xs cs:List Value) (w:World) (hi:i<n) (hn:n≤100000) (hvw:vb<w.heap.size) (hgw:g<w.heap.size) (hxs:∀ j v,xs[j]? = some v→w.cell? ⟨g,j,none⟩=some v) (hxl:xs.length=n*6) (hV:Blk w vb 220 cs.toArray) (hcl:cs.length=6) (h1:∀ v∈xs,v.oneCell'=true) (h2:∀ v∈cs,v.oneCell'=true) :
 Calls Tryz.prog 101 #[.slice (some ⟨g,0,none⟩) n n, .int .i64 i, .slice (some ⟨vb,0,none⟩) 1 1] w fun e w' => ∃ G:Nat,n+1≤G∧G≤maxLen∧e = .returned (.slice (some ⟨w.heap.size,0,none⟩) (n+1) G)∧(∃ row:List Value,row.length=G*6∧row.take ((n+1)*6)=xs.take (i*6)++(cs++xs.drop (i*6))∧Blk w' w.heap.size 220 row.toArray)∧w.grownBy w' none:=by
 obtain ⟨i0,hi0,hz0,hzs,hzb⟩:=info_parts znp
 have hz2:¬((i:Int)=(n:Int)):=by omega
 have hw1:IntKind.i64.wrap ((i:Int)+1)=(i:Int)+1:=zaw _ (by omega) (by omega)
 have hw2:IntKind.i64.wrap ((n:Int)+1)=(n:Int)+1:=zaw _ (by omega) (by omega)
 have hw3:IntKind.i64.wrap ((n:Int)+1-(i:Int))=(n:Int)+1-(i:Int):=zaw _ (by omega) (by omega)
 have hin:i≤n:=by omega
 have hb0:(0:Int)≤(i:Int):=by omega
 have hb1:(0:Int)≤(i:Int)+1:=by omega
 have htn:((i:Int)+1).toNat=i+1:=by omega
 have hb2:¬(n=i):=by omega
 have hb3:(i:Int)≤(n:Int):=by omega
 have hb5:(n:Int)<(n:Int)+1:=by omega
 have hsz:(Tryz.prog.info? 220).map (·.size)=some 6:=by kernel_rfl
 have hkk:(n:Int)+1-(i:Int)=((n+1-i:Nat):Int):=by omega
 have hik:i+(n+1-i)=n+1:=by omega
 have hold:(Builtin.firstCells i0.size i (.slice (some ⟨g,0,none⟩) i n)).run Tryz.prog w.drew = .ok (xs.take (i*6)).toArray w.drew:=by
  rw [hzs]
  exact run_firstCells_some w.drew 6 i ⟨g,0,none⟩ i n (xs.take (i*6)) (by rw [List.length_take,hxl];omega) (fun j v hj=>by
   rw [Addr.add_lit,Nat.zero_add]
   rw [List.getElem?_take] at hj
   split at hj
   · exact hxs j v hj
   · cases hj)
 have hrz:∀ ty,(Builtin.append_ #[35,3] ty #[.slice (some ⟨g,0,none⟩) i n, .int .i64 ((n:Int)+1-(i:Int))]).run Tryz.prog w = .ok (.slice (some ⟨w.heap.size,0,none⟩) (n+1) (grownCap w (n+1) n 220)) (w.drew.alloc (.cells ((xs.take (i*6)).toArray++Builtin.zeroCells (Value.agg #[.int .i64 0, .int .i64 0, .int .i64 0, .bool false, .int .u8 0, .slice none 0 0]).cells (n+1-i)++Builtin.zeroCells (Value.agg #[.int .i64 0, .int .i64 0, .int .i64 0, .bool false, .int .u8 0, .slice none 0 0]).cells (grownCap w (n+1) n 220-(n+1))) 220)):=fun ty=>by
  have h:=Lib.run_append_grow_zeros w 35 3 ty 220 i0 _ .i64 .i64 Tryz.underlying35 Tryz.underlying3 hi0 hz0 (some ⟨g,0,none⟩) i n (xs.take (i*6)) hold (n+1-i) (by omega) (by omega) (by omega) (by omega) (by rw [hzb];omega) (by rw [hzb,hik];exact growslice_fits (by omega) (by omega))
  rw [hik] at h
  rw [hkk]
  exact h
 obtain ⟨G,hG⟩:∃ G,G=grownCap w (n+1) n 220:=⟨_,rfl⟩
 have hGn:n+1≤G:=by rw [hG];exact grownCap_ge w _ _ _
 have hGm:G≤maxLen:=by rw [hG];exact grownCap_le_maxLen w (n+1) n _ (by unfold maxLen;omega)
 obtain ⟨ROW,hROW⟩:∃ ROW:Array Value,ROW=(xs.take (i*6)).toArray++Builtin.zeroCells (Value.agg #[.int .i64 0, .int .i64 0, .int .i64 0, .bool false, .int .u8 0, .slice none 0 0]).cells (n+1-i)++Builtin.zeroCells (Value.agg #[.int .i64 0, .int .i64 0, .int .i64 0, .bool false, .int .u8 0, .slice none 0 0]).cells (G-(n+1)):=⟨_,rfl⟩
 rw [← hG,← hROW] at hrz
 have hRl:ROW.size=G*6:=by
  rw [hROW]
  simp [Builtin.zeroCells,Value.cells,hxl]
  omega
 have hRt:ROW.toList.take (i*6)=xs.take (i*6):=by
  rw [hROW]
  simp only [Array.toList_append,List.append_assoc]
  rw [List.take_append_of_le_length (by simp [hxl];omega)]
  rw [List.take_take,Nat.min_self]
 obtain ⟨W1,hW1⟩:∃ W1,W1=w.drew.alloc (.cells ROW 220):=⟨_,rfl⟩
 have hB1:Blk W1 w.heap.size 220 ROW:=by rw [hW1];exact Blk.new w.drew _ _
 have hV1:Blk W1 vb 220 cs.toArray:=by rw [hW1];exact (Below.heap_alloc w.drew _ vb hvw).trans hV
 have hX1:∀ j v,xs[j]? = some v→W1.cell? ⟨g,j,none⟩=some v:=fun j v h=>by rw [hW1];exact (World.cell?_alloc_lt w.drew _ ⟨g,j,none⟩ hgw).trans (hxs j v h)
 rw [← hW1] at hrz
 have hne:vb≠w.heap.size:=by omega
 have hneg:g≠w.heap.size:=by omega
 obtain ⟨R1,hR1⟩:∃ R1:List Value,R1=ROW.toList.take (i*6)++cs++ROW.toList.drop (i*6+cs.length):=⟨_,rfl⟩
 have hR1l:R1.length=G*6:=by rw [hR1];simp only [List.length_append,List.length_take,List.length_drop,Array.length_toList,hRl,hcl];omega
 have hcpA:∀ (W:World),W.heap=W1.heap→∀ ty dc,(Builtin.copy_ #[35,35] ty #[.slice (some ⟨w.heap.size,i*6,none⟩) (n+1-i) dc, .slice (some ⟨vb,0,none⟩) 1 1]).run Tryz.prog W = .ok (goInt (Nat.min 1 (n+1-i))) (W.setRow w.heap.size R1.toArray):=fun W hW ty dc=>by
  have hBW:Blk W w.heap.size 220 ROW:=by unfold Blk;rw [hW];exact hB1
  have hVW:Blk W vb 220 cs.toArray:=by unfold Blk;rw [hW];exact hV1
  have:=zbr (P:=Tryz.prog) W 35 35 ty 220 6 w.heap.size (i*6) (n+1-i) dc ⟨vb,0,none⟩ 1 1 ROW 220 cs Tryz.underlying35 hsz hBW (by rw [hcl,show Nat.min 1 (n+1-i)=1 by simp only [Nat.min_def];split<;>omega])
   (fun j v hj=>by rw [Addr.add_lit,hVW.cell];simpa using hj) (by rw [hcl,hRl];omega) h2
  rw [← hR1] at this
  exact this
 obtain ⟨C2,hC2⟩:∃ C2:List Value,C2=xs.drop (i*6):=⟨_,rfl⟩
 have hC2l:C2.length=(n-i)*6:=by rw [hC2,List.length_drop,hxl];omega
 obtain ⟨R2,hR2⟩:∃ R2:List Value,R2=R1.take ((i+1)*6)++C2++R1.drop ((i+1)*6+C2.length):=⟨_,rfl⟩
 have hR2l:R2.length=G*6:=by rw [hR2];simp only [List.length_append,List.length_take,List.length_drop,hR1l,hC2l];omega
 have hR2t:R2.take ((n+1)*6)=xs.take (i*6)++(cs++xs.drop (i*6)):=by
  have e1:R1.take ((i+1)*6)=xs.take (i*6)++cs:=by
   rw [hR1,hRt]
   have hl6:(xs.take (i*6)++cs).length=(i+1)*6:=by simp [hxl,hcl];omega
   rw [← hl6,List.take_left]
  have hl7:(xs.take (i*6)++(cs++xs.drop (i*6))).length=(n+1)*6:=by simp [hxl,hcl];omega
  have key:R2=(xs.take (i*6)++(cs++xs.drop (i*6)))++R1.drop ((i+1)*6+(xs.drop (i*6)).length):=by rw [hR2,e1,hC2];simp only [List.append_assoc]
  rw [key,← hl7,List.take_left]
 have hcpB:∀ (W:World),W.heap=(W1.setRow w.heap.size R1.toArray).heap→∀ ty dc sc,(Builtin.copy_ #[35,35] ty #[.slice (some ⟨w.heap.size,(i+1)*6,none⟩) (n-i) dc, .slice (some ⟨g,i*6,none⟩) (n-i) sc]).run Tryz.prog W = .ok (goInt (Nat.min (n-i) (n-i))) (W.setRow w.heap.size R2.toArray):=fun W hW ty dc sc=>by
  have hBW:Blk W w.heap.size 220 R1.toArray:=by unfold Blk;rw [hW];exact setRow_heap W1 w.heap.size ROW R1.toArray _ _ hB1
  have hXW:∀ j v,xs[j]? = some v→W.cell? ⟨g,j,none⟩=some v:=fun j v h=>by
   have h9:=hX1 j v h
   have h8:W.heap[g]? = W1.heap[g]? := by rw [hW];exact setRow_other W1 w.heap.size g R1.toArray hneg
   simp only [World.cell?] at h9 ⊢
   rw [h8];exact h9
  have:=zbr (P:=Tryz.prog) W 35 35 ty 220 6 w.heap.size ((i+1)*6) (n-i) dc ⟨g,i*6,none⟩ (n-i) sc R1.toArray 220 C2 Tryz.underlying35 hsz hBW (by rw [hC2l,show Nat.min (n-i) (n-i)=n-i by simp])
   (fun j v hj=>by rw [Addr.add_lit];exact hXW _ v (by rw [hC2,List.getElem?_drop] at hj;exact hj)) (by rw [hC2l];simp [hR1l];omega) (fun v hv=>h1 v (by rw [hC2] at hv;exact List.mem_of_mem_drop hv))
  rw [List.toList_toArray] at this
  rw [← hR2] at this
  exact this
 have hcpB':=fun ty dc sc=>hcpB (W1.setRow w.heap.size R1.toArray).drew rfl ty dc sc
 have HB1:=Z9 hB1
 have HW1:=Z9 hW1
 have HR2L:=Z9 hR2l
 have HR2T:=Z9 hR2t
 have HGN:=Z9 hGn
 have HGM:=Z9 hGm
 have hGi:¬(G=i):=by omega
 have hGi1:¬(G=i+1):=by omega
 have hG63:G≤9223372036854775807:=by unfold maxLen at hGm;exact hGm
 have hGii:(n:Int)+1≤(G:Int):=by omega
 clear hold hkk hik hG hGn hGm hROW hRl hRt hB1 hV1 hX1 hR1 hR1l hC2 hC2l hR2 hR2l hR2t hW1 hi0 hz0 hzs hzb hsz hxs hxl hV hcl h1 h2
 go_enter Tryz.func101,Tryz.ntmps101
 go_wp2_with (first
  | (at_builtin;refine Lib.wpList_append_run _ rfl _ _ _ _ rfl _ _ rfl rfl _ _ (hrz _) ?_)
  | (at_builtin;refine wpList_copy_runI _ rfl _ _ 35 35 rfl _ _ rfl rfl (hcpA _ rfl _ _) ?_))
 go_region_law (refine step_copy_runI rfl _ _ 35 35 rfl _ _ (by simp [Act.eval,Act.put]) (by simp [Act.eval,Act.put]) (hcpB' _ _ _) ?_)
 go_wp2_with fail
 go_ret
 refine ⟨G,HGN.out,HGM.out,by first|rfl|simp,⟨R2,HR2L.out,HR2T.out,?_⟩,?_⟩
 · exact setRow_heap _ w.heap.size R1.toArray R2.toArray _ _ (setRow_heap W1 w.heap.size ROW R1.toArray _ _ HB1.out)
 · rw [HW1.out]
   refine ⟨rfl,rfl,rfl,by simp,fun k hk hne2 => ?_⟩
   have hkg:k≠w.heap.size:=by omega
   exact (setRow_other _ _ _ _ hkg).trans ((setRow_other _ _ _ _ hkg).trans (Below.heap_alloc w.drew _ k hk))
end Go.Proofs.YtbcgnddpkiemoaaGreat
namespace Go.Proofs.YtbcgnddpkiemoaaGreat
open Go.RowKit
theorem zff {α : Type} {row : α → List Value} {k:Nat} (hr:∀ a,(row a).length=k):∀ (l:List α) (i:Nat),(l.take i).flatMap row=(l.flatMap row).take (i*k)∧(l.drop i).flatMap row=(l.flatMap row).drop (i*k)
 | [],i=>by simp
 | a::l,0=>by simp
 | a :: l, i + 1 => by
   obtain ⟨h1,h2⟩:=zff hr l i
   have e:(i+1)*k=(row a).length+i*k:=by rw [hr,Nat.add_mul];omega
   simp only [List.take_succ_cons,List.drop_succ_cons,List.flatMap_cons,h1,h2,e]
   rw [List.take_length_add_append,List.drop_length_add_append]
   exact ⟨rfl,rfl⟩
theorem zef {α : Type} {row : α → List Value} {k:Nat} (hr:∀ a,(row a).length=k):∀ l:List α, (l.flatMap row).length=l.length*k
 | []=>by simp
 | a::l=>by rw [List.flatMap_cons,List.length_append,hr,zef hr l,List.length_cons,Nat.add_mul];omega
theorem row_len (a:TW):a.row.length=6:=rfl
theorem zhf (a:TW):∀ v∈a.row,v.oneCell'=true:=by
 intro v hv
 simp [TW.row] at hv
 rcases hv with rfl|rfl|rfl|rfl|rfl|rfl<;>rfl
theorem zkv (l:List TW):∀ v∈l.flatMap TW.row,v.oneCell'=true:=by
 intro v hv
 obtain ⟨a,_,hv⟩:=List.mem_flatMap.1 hv
 exact zhf a v hv
def QInsR (base n:Nat) (l':List TW) (w:World) (e:Ending) (w':World):Prop :=
 ∃ (A':Option Addr) (c':Nat),e = .returned (.slice A' (n+1) c')∧QOwn w' base A' (n+1) c' l'∧Below base w w'
theorem QOwn.ins {w w':World} {base n c c' i:Nat} {A A':Option Addr} {l:List TW} {a:TW} (h:QOwn w base A n c l) (hbase:base≤w.heap.size) (hi:i≤n)
 (qo:Owns w' base 220 6 A' (n+1) c' ((l.take i++a::l.drop i).flatMap TW.row)) (hg:w.grownBy w' (ownB A)) (hat:ownB A'=ownB A∨∀ g,ownB A'=some g→w.heap.size≤g)
 (hpay:IntsAt w w.heap.size .u8 a.B a.w.m.pl) (hfar:0<a.w.m.pl.length→∀ b off,a.B=some ⟨b,off,none⟩→some b≠ownB A) (hnew:0<a.w.m.pl.length→∀ b off,a.B=some ⟨b,off,none⟩→base≤b) (hcp:a.w.m.pl.length≤a.c) :
 QOwn w' base A' (n+1) c' (l.take i++a::l.drop i)∧Below base w w':=by
 have hl:=h.len
 have hsz:=hg.size
 have hmem:∀ x,x∈l.take i++a::l.drop i→x∈l∨x=a:=by
  intro x hx
  rcases List.mem_append.1 hx with hx|hx
  · exact .inl (List.mem_of_mem_take hx)
  · rcases List.mem_cons.1 hx with rfl|hx
    · exact .inr rfl
    · exact .inl (List.mem_of_mem_drop hx)
 have hall:∀ x,x∈l.take i++a::l.drop i→IntsAt w w.heap.size .u8 x.B x.w.m.pl∧(0<x.w.m.pl.length→∀ b off,x.B=some ⟨b,off,none⟩→some b≠ownB A)∧(0<x.w.m.pl.length→∀ b off,x.B=some ⟨b,off,none⟩→base≤b):=by
  intro x hx
  rcases hmem x hx with hx|rfl
  · exact ⟨h.pay x hx,h.far x hx,h.new x hx⟩
  · exact ⟨hpay,hfar,hnew⟩
 refine ⟨⟨?_,qo,fun x hx h0 => ?_,fun x hx h0 b off e => ?_,fun x hx=>(hall x hx).2.2,fun x hx=>(hmem x hx).elim (fun h9=>h.cap x h9) (fun h9=>h9 ▸ hcp)⟩,?_⟩
 · simp [hl];omega
 · obtain ⟨p,f,_⟩:=hall x hx
   obtain ⟨b,off,e,hlt,hc⟩:=p h0
   exact ⟨b,off,e,by omega,fun k hk=>hg.cell (hc k hk) (f h0 b off e)⟩
 · obtain ⟨p,f,_⟩:=hall x hx
   rcases hat with e2|e2
   · rw [e2];exact f h0 b off e
   · intro he
     have h9:=e2 b he.symm
     obtain ⟨b',off',e',hlt,_⟩:=p h0
     rw [e] at e'
     injection e' with e'
     injection e' with e1 _
     omega
 · exact (Below.refl base w).grown hg hbase (fun g e=>(h.own.block g e).1)
theorem zmp (base n c i vb:Nat) (A:Option Addr) (l:List TW) (a:TW) (w:World) (hn:n≤100000) (hbase:base≤w.heap.size) (hQ:QOwn w base A n c l) (hi:i≤n) (hV:Blk w vb 220 a.row.toArray) (hvA:some vb≠ownB A)
 (hpay:IntsAt w w.heap.size .u8 a.B a.w.m.pl) (hfar:0<a.w.m.pl.length→∀ b off,a.B=some ⟨b,off,none⟩→some b≠ownB A) (hnew:0<a.w.m.pl.length→∀ b off,a.B=some ⟨b,off,none⟩→base≤b) (hcp:a.w.m.pl.length≤a.c) :
 Calls Tryz.prog 101 #[.slice A n c, .int .i64 i, .slice (some ⟨vb,0,none⟩) 1 1] w (QInsR base n (l.take i++a::l.drop i) w):=by
 have hfl:(l.flatMap TW.row).length=n*6:=by rw [zef row_len,hQ.len]
 have hys:(l.take i++a::l.drop i).flatMap TW.row=(l.flatMap TW.row).take (i*6)++(a.row++(l.flatMap TW.row).drop (i*6)):=by
  rw [List.flatMap_append,List.flatMap_cons,(zff (k:=6) row_len l i).1,(zff (k:=6) row_len l i).2]
 by_cases hin:i=n
 · subst hin
   refine (zmo base i c vb A (l.flatMap TW.row) a.row w hn hbase hQ.own hV rfl (zhf a)).mono ?_
   rintro e w' ⟨A',c',rfl,qo,hg,hat⟩
   have h:=hQ.ins (a:=a) (i:=i) hbase hi (by rw [hys,List.take_of_length_le (by omega),List.drop_of_length_le (by omega),List.append_nil];exact qo) hg hat hpay hfar hnew hcp
   exact ⟨A',c',rfl,h.1,h.2⟩
 obtain ⟨g,hA,hbg,hlt⟩:=hQ.own.form (by omega)
 subst hA
 obtain ⟨hxl,hcase⟩:=hQ.own
 obtain ⟨cur,hheap,hnc,hcm,hcs,hct⟩:∃ cur:Array Value,w.heap[g]? = some (.cells cur 220 (0,0))∧n≤c∧c≤maxLen∧cur.size=c*6∧cur.toList.take (n*6)=l.flatMap TW.row:=by
  rcases hcase with ⟨hv,_⟩|⟨g',cap,cur,hv,_,h1,h2,h3,h4,h5⟩
  · injection hv with h1;cases h1
  · injection hv with e1 e2 e3
    injection e1 with e1
    injection e1 with e1 _
    subst e1 e3
    exact ⟨cur,h1,h2,h3,h4,h5⟩
 clear hcase
 have hvg:vb≠g:=fun e=>hvA (by rw [e];rfl)
 by_cases hroom:n+1≤c
 · refine (zjo g n c i vb cur a.row w (by omega) hroom hcm hvg hheap hV rfl hcs (by rw [hct];exact zkv l) (zhf a)).mono ?_
   rintro e w' ⟨rfl,hB,hg⟩
   have hl6:cur.toList.length=c*6:=by simpa using hcs
   have hdl:(cur.toList.drop (i*6)).take ((n-i)*6)=(l.flatMap TW.row).drop (i*6):=by rw [← hct,List.drop_take,show (n-i)*6=n*6-i*6 by omega]
   have htl:cur.toList.take (i*6)=(l.flatMap TW.row).take (i*6):=by rw [← hct,List.take_take,Nat.min_eq_left (by omega)]
   have qo:Owns w' base 220 6 (some ⟨g,0,none⟩) (n+1) c ((l.take i++a::l.drop i).flatMap TW.row):=by
    refine ⟨by rw [zef row_len];simp [hQ.len];omega, .inr ⟨g,c,_,rfl,hbg,hB,hroom,hcm,?_,?_⟩⟩
    · simp only [List.size_toArray,List.length_append,List.length_take,List.length_drop,hl6,TW.row,List.length_cons,List.length_nil]
      omega
    · rw [hys,hdl,htl]
      show List.take _ (_++(a.row++(_++_)))=_
      have e1:(l.flatMap TW.row).take (i*6)++(a.row++((l.flatMap TW.row).drop (i*6)++cur.toList.drop ((n+1)*6)))=((l.flatMap TW.row).take (i*6)++(a.row++(l.flatMap TW.row).drop (i*6)))++cur.toList.drop ((n+1)*6):=by simp only [List.append_assoc]
      have e2:((l.flatMap TW.row).take (i*6)++(a.row++(l.flatMap TW.row).drop (i*6))).length=(n+1)*6:=by
       simp only [List.length_append,List.length_take,List.length_drop,hfl,TW.row,List.length_cons,List.length_nil];omega
      rw [e1,← e2,List.take_left]
   have h:=hQ.ins (a:=a) (i:=i) hbase hi qo hg (.inl rfl) hpay hfar hnew hcp
   exact ⟨_,c,rfl,h.1,h.2⟩
 · have hcn:c=n:=by omega
   subst hcn
   refine (zjp g c i vb (l.flatMap TW.row) a.row w (by omega) hn hV.lt hlt (fun j v hj => ?_) hfl hV rfl (zkv l) (zhf a)).mono ?_
   · have h9:=World.ownsRow.cells (g:=g) hQ.own rfl j v hj
     rw [Addr.add_lit,Nat.zero_add] at h9
     exact h9
   · rintro e w' ⟨G,hG1,hG2,rfl,⟨row,hr1,hr2,hr3⟩,hg⟩
     have qo:Owns w' base 220 6 (some ⟨w.heap.size,0,none⟩) (c+1) G ((l.take i++a::l.drop i).flatMap TW.row):=by
      refine ⟨by rw [zef row_len];simp [hQ.len];omega, .inr ⟨w.heap.size,G,row.toArray,rfl,hbase,hr3,hG1,hG2,by simpa using hr1,?_⟩⟩
      rw [hys]
      exact hr2
     have hg':w.grownBy w' (ownB (some ⟨g,0,none⟩)):=⟨hg.os,hg.tape,hg.output,hg.size,fun k hk _=>hg.block k hk (by simp)⟩
     have h:=hQ.ins (a:=a) (i:=i) hbase hi qo hg' (.inr fun g' e=>by injection e with e;rw [← e];exact Nat.le_refl _) hpay hfar hnew hcp
     exact ⟨_,G,rfl,h.1,h.2⟩
end Go.Proofs.YtbcgnddpkiemoaaGreat
namespace Go.Proofs.YtbcgnddpkiemoaaGreat
attribute [local go_sem ↓] zab zac
attribute [local go_sem] zaa zad
open Go.RowKit
theorem r93 (s:Nat→Value):((List.range 93).map s).toArray = #[s 0,s 1,s 2,s 3,s 4,s 5,s 6,s 7,s 8,s 9,s 10,s 11,s 12,s 13,s 14,s 15,s 16,s 17,s 18,s 19,s 20,s 21,s 22,s 23,s 24,s 25,s 26,s 27,s 28,s 29,s 30,s 31,s 32,s 33,s 34,s 35,s 36,s 37,s 38,s 39,s 40,s 41,s 42,s 43,s 44,s 45,s 46,s 47,s 48,s 49,s 50,s 51,s 52,s 53,s 54,s 55,s 56,s 57,s 58,s 59,s 60,s 61,s 62,s 63,s 64,s 65,s 66,s 67,s 68,s 69,s 70,s 71,s 72,s 73,s 74,s 75,s 76,s 77,s 78,s 79,s 80,s 81,s 82,s 83,s 84,s 85,s 86,s 87,s 88,s 89,s 90,s 91,s 92]:=rfl
def MeasR (s:Jb.Jt) (m:Jb.Md) (A:Option Addr) (n c:Nat) (w:World) (e:Ending) (w':World):Prop:=e = .returned (JV (Jb.meas s m) A n c)∧Below w.heap.size w w'
def MeasQ (T:Jb.Jt) (A:Option Addr) (n c:Nat) (w:World) (e:Ending) (w':World):Prop:=e = .returned (JV T A n c)∧Below w.heap.size w w'
structure MS (w W:World) (s:Jb.Jt) (A:Option Addr) (n c:Nat) (m:Jb.Md) (MA:Option Addr) (mn mc:Nat):Prop where
 bs:Blk W w.heap.size 37 (JL s A n c).toArray
 bm:Blk W (w.heap.size+1) 183 (ML m MA mn mc).toArray
 br:Blk W (w.heap.size+1+1) 37 (JL Jb.Jt.none none 0 0).toArray
 u:Bel w W
theorem MS.drewN {w W:World} {s:Jb.Jt} {A:Option Addr} {n c:Nat} {m:Jb.Md} {MA:Option Addr} {mn mc:Nat} (h:MS w W s A n c m MA mn mc) (k:Nat):MS w (W.drewN k) s A n c m MA mn mc:=⟨h.bs.drewN k,h.bm.drewN k,h.br.drewN k,Bel.drewN h.u k⟩
theorem MS.put {w W:World} {s:Jb.Jt} {A:Option Addr} {n c:Nat} {m:Jb.Md} {MA:Option Addr} {mn mc:Nat} (h:MS w W s A n c m MA mn mc) (i:Nat) (v:Value) (s':Jb.Jt) (hJ:(JL s A n c).set i v=JL s' A n c:=by rfl):MS w (W.setCell ⟨w.heap.size,i,none⟩ v) s' A n c m MA mn mc:=by
 refine ⟨?_,h.bm.far (by simp) _,h.br.far (by simp;omega) _,zaj h.u (Nat.le_refl _) _⟩
 have:=h.bs.set_ i v
 rw [← hJ]
 simpa using this
def endT (s:Jb.Jt) (m:Jb.Md):Jb.Jt := { s with on:=true,high:=max s.high m.sq }
noncomputable def ms7_code:Code:=((Tryz.f96.body.bind (fromReg 7)).getD .skip)
noncomputable def ms8_code:Code:=((Tryz.f96.body.bind (fromReg 8)).getD .skip)
noncomputable def ms14_code:Code:=((Tryz.f96.body.bind (fromReg 14)).getD .skip)
noncomputable def ms9_code:Code:=((Tryz.f96.body.bind (findT 9)).getD .skip)
theorem zjq {w W:World} {s:Jb.Jt} {A:Option Addr} {n c:Nat} {m:Jb.Md} {MA:Option Addr} {mn mc:Nat} {T:Jb.Jt} (S:MS w W s A n c m MA mn mc) (hT:T=endT s m) (a:Act) (ha:Fr 93 [(2, .pointer (some ⟨w.heap.size,0,none⟩)),(3, .pointer (some ⟨w.heap.size+1,0,none⟩)),(4, .pointer (some ⟨w.heap.size+1+1,0,none⟩))] a):firstWp Tryz.prog ms14_code (bodyPost Tryz.prog Tryz.f96 (MeasQ T A n c w)) a W:=by
 obtain ⟨s_,rfl,e2,e3,e4,_⟩:=ha
 rw [r93,e2,e3,e4]
 clear e2 e3 e4
 refine zaq ?_
 intro _ _
 have b3:W.cell? ⟨w.heap.size,3,none⟩=some (.bool s.on):=S.bs.at 3 _ rfl
 have b6:W.cell? ⟨w.heap.size,6,none⟩=some (.int .i64 s.high):=S.bs.at 6 _ rfl
 have m0:W.cell? ⟨w.heap.size+1,0,none⟩=some (.int .i64 m.sq):=S.bm.at 0 _ rfl
 have bfz:=S.bs.frozen
 go_upto_region 16 with fail
 clear b3 b6 m0 bfz
 have S2:=(S.put 3 (.bool true) { s with on:=true }).put 6 (.int .i64 (max s.high m.sq)) (endT s m)
 generalize (W.setCell _ _).setCell _ _=W2 at S2 ⊢
 go_wp2_with (first|(refine zae rfl 37 (.tmp 2) rfl (w.heap.size) 0 rfl 37 (JL (endT s m) A n c) S2.bs 14 _ Tryz.underlying37 zap (show 0+14≤14 by decide) (JL (endT s m) A n c).toArray (by rfl) rfl ?_)|(refine zaf rfl 37 (.tmp 4) (.tmp 92) rfl (w.heap.size+1+1) 0 rfl 37 (JL Jb.Jt.none none 0 0) S2.br (JL (endT s m) A n c) rfl zap (show 0+14≤14 by decide) rfl (JL (endT s m) A n c) rfl ?_;intro WB BB OB)|fail)
 exact bodyPost_ret (v:=JV (endT s m) A n c) (zeh Tryz.results96 rfl (run_loadVar_row (P:=Tryz.prog) _ _ _ _ _ _ _ BB Tryz.underlying37 rfl (by kernel_rfl))) rfl ⟨by rw [hT],OB.bel S2.u (by omega)⟩
theorem zpo {w W:World} {s:Jb.Jt} {A:Option Addr} {n c:Nat} {l:List TW} {m:Jb.Md} {MA:Option Addr} {mn mc:Nat} {K:Act→World→Prop} {Q:Exit→Act→World→Prop} (S:MS w W s A n c m MA mn mc) (n0:0≤s.now) (n1:s.now≤281474976710656) (sp0:0≤s.spread) (sp1:s.spread≤80000000000000000) (c0:1≤s.least) (c1:s.least≤s.most) (c2:s.most≤1000) (hn:l.length=n) (hq:l.map TW.w=s.q) (hl:n≤200) (hA:Wts w w.heap.size A l) (hAt:∀ a∈l,0≤a.w.at_∧a.w.at_≤562949953421312) (hK:∀ (W:World) (a:Act),MS w W ({ s with first:=m.ti,zero:=(Jb.lastAt (s.now+min (s.least+s.spread / 4) s.most) s.q) } : Jb.Jt) A n c m MA mn mc→Fr 93 [(2, .pointer (some ⟨w.heap.size,0,none⟩)),(3, .pointer (some ⟨w.heap.size+1,0,none⟩)),(4, .pointer (some ⟨w.heap.size+1+1,0,none⟩))] a→K a W) (a:Act) (ha:Fr 93 [(2, .pointer (some ⟨w.heap.size,0,none⟩)),(3, .pointer (some ⟨w.heap.size+1,0,none⟩)),(4, .pointer (some ⟨w.heap.size+1+1,0,none⟩))] a):firstWp Tryz.prog ms9_code (Exit.then K Q) a W:=by
 obtain ⟨s_,rfl,e2,e3,e4,_⟩:=ha
 rw [r93,e2,e3,e4]
 clear e2 e3 e4
 obtain ⟨zs,hzs⟩:∃ zs,zs=s.now+min (s.least+s.spread / 4) s.most:=⟨_,rfl⟩
 have zs0:0≤zs:=by omega
 have zs1:zs≤300000000000000:=by omega
 rw [← hzs] at hK
 have HZS:=Z9 hzs
 have HK:=Z9 hK
 have HA:=Z9 hA
 have HAT:=Z9 hAt
 have HQ:=Z9 hq
 clear hzs hK hA hAt hq
 refine zaq ?_
 intro _ _
 have b0:W.cell? ⟨w.heap.size,0,none⟩=some (.int .i64 s.least):=S.bs.at 0 _ rfl
 have b1:W.cell? ⟨w.heap.size,1,none⟩=some (.int .i64 s.most):=S.bs.at 1 _ rfl
 have b2:W.cell? ⟨w.heap.size,2,none⟩=some (.int .i64 s.now):=S.bs.at 2 _ rfl
 have b4:W.cell? ⟨w.heap.size,4,none⟩=some (.int .i64 s.zero):=S.bs.at 4 _ rfl
 have b5:W.cell? ⟨w.heap.size,5,none⟩=some (.int .i64 s.first):=S.bs.at 5 _ rfl
 have b8:W.cell? ⟨w.heap.size,8,none⟩=some (.int .i64 s.spread):=S.bs.at 8 _ rfl
 have m1:W.cell? ⟨w.heap.size+1,1,none⟩=some (.int .i64 m.ti):=S.bm.at 1 _ rfl
 have bfz:=S.bs.frozen
 go_upto_region 11 with fail
 rw [← HZS.out]
 have S2:=(S.put 5 (.int .i64 m.ti) { s with first:=m.ti }).put 4 (.int .i64 zs) { s with first:=m.ti,zero:=zs }
 generalize (W.setCell _ _).setCell _ _=W2 at S2 ⊢
 clear b0 b1 b2 b4 b5 b8 m1 bfz S
 have b10:W2.cell? ⟨w.heap.size,10,none⟩=some (.slice A n c):=S2.bs.at 10 _ rfl
 by_cases h0:n=0
 · have hla:Jb.lastAt zs s.q=zs:=by unfold Jb.lastAt;rw [if_pos];rw [← HQ.out,List.length_map,hn,h0]
   rw [hla] at HK
   clear hla
   subst h0
   go_wp2_with fail
   exact HK.out _ _ S2 (Fr.mk rfl ⟨rfl,rfl,rfl,trivial⟩)
 obtain ⟨k,rfl⟩:∃ k,n=k+1:=⟨n-1,by omega⟩
 obtain ⟨a,ha⟩:∃ a,l[k]? = some a:=⟨_,List.getElem?_eq_getElem (by omega)⟩
 have hU:=S2.u
 obtain ⟨bq,oq,rfl,hbB,e0, -⟩:=zen (HA.out.later hU).1 ha
 obtain ⟨y0,y1⟩:=HAT.out a (List.mem_of_getElem? ha)
 have hla:Jb.lastAt zs s.q=max zs (a.w.at_+1):=by
  unfold Jb.lastAt
  rw [if_neg (by rw [← HQ.out,List.length_map,hn];omega),← HQ.out,List.length_map,hn]
  simp [List.getD_eq_getElem?_getD,ha]
 rw [hla] at HK
 obtain ⟨at0,hat0⟩:∃ x,x=a.w.at_:=⟨_,rfl⟩
 rw [← hat0] at e0 y0 y1 HK
 clear hla hat0 ha hU HQ HAT HA
 have hw5:IntKind.i64.wrap (at0+1)=at0+1:=zaw _ (by omega) (by omega)
 have b4:W2.cell? ⟨w.heap.size,4,none⟩=some (.int .i64 zs):=S2.bs.at 4 _ rfl
 have bfz:=S2.bs.frozen
 have hw1:IntKind.i64.wrap (((k:Int)+1)-1)=(k:Int):=by rw [zaw _ (by omega) (by omega)];omega
 have hw3:((k:Int)+1)-1=(k:Int):=by omega
 have hm0:(0:Int)≤(k:Int):=by omega
 have hm1:(k:Int)<((k:Int)+1):=by omega
 have h0':(0:Int)<((k:Int)+1):=by omega
 clear hn h0
 go_wp2_with fail
 go_region
 all_goals
  go_wp2_with fail
  exact HK.out _ _ ((S2.drewN _).put 4 (.int .i64 (max zs (at0+1))) { s with first:=m.ti,zero:=max zs (at0+1) }) (Fr.mk rfl ⟨rfl,rfl,rfl,trivial⟩)
def begM (s:Jb.Jt) (m:Jb.Md):Jb.Jt:=if s.on=false∨(m.mrk=true∧s.high<m.sq) then { s with first:=m.ti,zero:=Jb.lastAt (s.now+min (s.least+s.spread / 4) s.most) s.q } else s
theorem zxn {w W:World} {s:Jb.Jt} {A:Option Addr} {n c:Nat} {l:List TW} {m:Jb.Md} {MA:Option Addr} {mn mc:Nat} {T:Jb.Jt} (S:MS w W s A n c m MA mn mc) (n0:0≤s.now) (n1:s.now≤281474976710656) (sp0:0≤s.spread) (sp1:s.spread≤80000000000000000) (c0:1≤s.least) (c1:s.least≤s.most) (c2:s.most≤1000) (hn:l.length=n) (hq:l.map TW.w=s.q) (hl:n≤200) (hA:Wts w w.heap.size A l) (hAt:∀ a∈l,0≤a.w.at_∧a.w.at_≤562949953421312) (hT:T=endT (begM s m) m) (a:Act) (ha:Fr 93 [(2, .pointer (some ⟨w.heap.size,0,none⟩)),(3, .pointer (some ⟨w.heap.size+1,0,none⟩)),(4, .pointer (some ⟨w.heap.size+1+1,0,none⟩))] a):firstWp Tryz.prog ms8_code (bodyPost Tryz.prog Tryz.f96 (MeasQ T A n c w)) a W:=by
 obtain ⟨s_,rfl,e2,e3,e4,_⟩:=ha
 rw [r93,e2,e3,e4]
 clear e2 e3 e4
 refine zas ?_
 intro K hK L hL
 obtain ⟨on,hon⟩:∃ on,on=s.on:=⟨_,rfl⟩
 obtain ⟨mk,hmk⟩:∃ mk,mk=m.mrk:=⟨_,rfl⟩
 have b3:W.cell? ⟨w.heap.size,3,none⟩=some (.bool on):=by rw [hon];exact S.bs.at 3 _ rfl
 have m2:W.cell? ⟨w.heap.size+1,2,none⟩=some (.bool mk):=by rw [hmk];exact S.bm.at 2 _ rfl
 have b6:W.cell? ⟨w.heap.size,6,none⟩=some (.int .i64 s.high):=S.bs.at 6 _ rfl
 have m0:W.cell? ⟨w.heap.size+1,0,none⟩=some (.int .i64 m.sq):=S.bm.at 0 _ rfl
 have HT:=Z9 hT
 have HON:=Z9 (And.intro hon hmk)
 have HQ:=Z9 hq
 have HN:=Z9 hn
 clear hT hon hmk hq hn
 by_cases hbg:on=false∨(mk=true∧s.high<m.sq)
 · have hbt:begM s m=({ s with first:=m.ti,zero:=(Jb.lastAt (s.now+min (s.least+s.spread / 4) s.most) s.q) } : Jb.Jt):=by unfold begM;rw [← HON.out.1,← HON.out.2,if_pos hbg]
   rw [hbt] at HT
   clear hbt
   have hK2:=Z9 fun (W:World) (a:Act) (S2:MS w W ({ s with first:=m.ti,zero:=(Jb.lastAt (s.now+min (s.least+s.spread / 4) s.most) s.q) } : Jb.Jt) A n c m MA mn mc) (ha:Fr 93 [(2, .pointer (some ⟨w.heap.size,0,none⟩)),(3, .pointer (some ⟨w.heap.size+1,0,none⟩)),(4, .pointer (some ⟨w.heap.size+1+1,0,none⟩))] a)=>hK a W (zig (zjq S2 HT.out a ha))
   rcases hbg with rfl|⟨rfl,hsq⟩
   · go_upto_region 9 with fail
     refine zan (by assumption) ?_
     exact zpo S n0 n1 sp0 sp1 c0 c1 c2 HN.out HQ.out hl hA hAt hK2.out _ (Fr.mk rfl ⟨rfl,rfl,rfl,trivial⟩)
   · cases on
     · go_upto_region 9 with fail
       refine zan (by assumption) ?_
       exact zpo S n0 n1 sp0 sp1 c0 c1 c2 HN.out HQ.out hl hA hAt hK2.out _ (Fr.mk rfl ⟨rfl,rfl,rfl,trivial⟩)
     · go_upto_region 9 with fail
       refine zan (by assumption) ?_
       exact zpo S n0 n1 sp0 sp1 c0 c1 c2 HN.out HQ.out hl hA hAt hK2.out _ (Fr.mk rfl ⟨rfl,rfl,rfl,trivial⟩)
 have hbt:begM s m=s:=by unfold begM;rw [← HON.out.1,← HON.out.2,if_neg hbg]
 rw [hbt] at HT
 clear hbt
 cases on
 · exact absurd (Or.inl rfl) hbg
 cases mk
 · clear hbg
   go_upto_region 14 with fail
   refine zan (by assumption) ?_
   exact zjq S HT.out _ (Fr.mk rfl ⟨rfl,rfl,rfl,trivial⟩)
 · have hsq:¬s.high<m.sq:=fun h=>hbg (Or.inr ⟨rfl,h⟩)
   clear hbg
   go_upto_region 14 with fail
   refine zan (by assumption) ?_
   exact zjq S HT.out _ (Fr.mk rfl ⟨rfl,rfl,rfl,trivial⟩)
theorem zpp {w W:World} {s:Jb.Jt} {A:Option Addr} {n c:Nat} {l:List TW} {m:Jb.Md} {MA:Option Addr} {mn mc:Nat} {T:Jb.Jt} {TT:Int} (S:MS w W s A n c m MA mn mc) (n0:0≤s.now) (n1:s.now≤281474976710656) (sp0:0≤s.spread) (sp1:s.spread≤80000000000000000) (c0:1≤s.least) (c1:s.least≤s.most) (c2:s.most≤1000) (hn:l.length=n) (hq:l.map TW.w=s.q) (hl:n≤200) (hA:Wts w w.heap.size A l) (hAt:∀ a∈l,0≤a.w.at_∧a.w.at_≤562949953421312) (hT:T=endT (begM { s with trans:=TT } m) m) (a:Act) (ha:Fr 93 [(2, .pointer (some ⟨w.heap.size,0,none⟩)),(3, .pointer (some ⟨w.heap.size+1,0,none⟩)),(4, .pointer (some ⟨w.heap.size+1+1,0,none⟩)),(5, .int .i64 TT)] a):firstWp Tryz.prog ms7_code (bodyPost Tryz.prog Tryz.f96 (MeasQ T A n c w)) a W:=by
 obtain ⟨s_,rfl,e2,e3,e4,e5,_⟩:=ha
 rw [r93,e2,e3,e4,e5]
 clear e2 e3 e4 e5
 refine zaq ?_
 intro _ _
 have b9:W.cell? ⟨w.heap.size,9,none⟩=some (.int .i64 s.trans):=S.bs.at 9 _ rfl
 have bfz:=S.bs.frozen
 go_upto_region 8 with fail
 clear b9 bfz
 have S2:=S.put 9 (.int .i64 TT) { s with trans:=TT }
 generalize W.setCell _ _=W2 at S2 ⊢
 refine zbh (by assumption) (by assumption) ?_
 exact zxn S2 n0 n1 sp0 sp1 c0 c1 c2 hn hq hl hA hAt hT _ (Fr.mk rfl ⟨rfl,rfl,rfl,trivial⟩)
theorem zsm (s:Jb.Jt) (m:Jb.Md):Jb.meas s m=endT (begM { s with spread:=if s.on then s.spread+max (s.now-m.ti / 8-s.trans) (s.trans-(s.now-m.ti / 8))-(s.spread+8) / 16 else s.spread,trans:=s.now-m.ti / 8 } m) m:=by
 unfold Jb.meas begM endT
 dsimp only
 by_cases hb:s.on=false∨(m.mrk=true∧s.high<m.sq)
 · simp only [if_pos hb]
 · simp only [if_neg hb]
theorem zpq (s:Jb.Jt) (A:Option Addr) (l:List TW) (n c:Nat) (m:Jb.Md) (MA:Option Addr) (mn mc:Nat) (w:World) (hn:l.length=n) (hq:l.map TW.w=s.q) (hl:n≤200) (hA:Wts w w.heap.size A l) (n0:0≤s.now) (n1:s.now≤281474976710656) (t0 : -281474976710656≤m.ti) (t1:m.ti≤281474976710656) (r0 : -1125899906842624≤s.trans) (r1:s.trans≤1125899906842624) (sp0:0≤s.spread) (sp1:s.spread≤72057594037927936) (c0:1≤s.least) (c1:s.least≤s.most) (c2:s.most≤1000) (hAt:∀ a∈l,0≤a.w.at_∧a.w.at_≤562949953421312):Calls Tryz.prog 96 #[.agg #[.int .i64 s.least, .int .i64 s.most, .int .i64 s.now, .bool s.on, .int .i64 s.zero, .int .i64 s.first, .int .i64 s.high, .int .i64 s.done, .int .i64 s.spread, .int .i64 s.trans, .slice A n c, .int .i64 s.late, .int .i64 s.twice, .int .i64 s.played], .agg #[.int .i64 m.sq, .int .i64 m.ti, .bool m.mrk, .int .u8 m.ty, .slice MA mn mc]] w (MeasR s m A n c w):=by
 have S:MS w (((w.alloc (.cells #[.int .i64 s.least, .int .i64 s.most, .int .i64 s.now, .bool s.on, .int .i64 s.zero, .int .i64 s.first, .int .i64 s.high, .int .i64 s.done, .int .i64 s.spread, .int .i64 s.trans, .slice A n c, .int .i64 s.late, .int .i64 s.twice, .int .i64 s.played] 37)).alloc (.cells #[.int .i64 m.sq, .int .i64 m.ti, .bool m.mrk, .int .u8 m.ty, .slice MA mn mc] 183)).alloc (.cells (JL Jb.Jt.none none 0 0).toArray 37)) s A n c m MA mn mc:=⟨((Blk.new w _ _).push _).push _,(Blk.new1 _ _ _ _).push _,Blk.new2 _ _ _ _ _,(((Bel.refl w).push _).push _).push _⟩
 have hT:Jb.meas s m=_:=zsm s m
 obtain ⟨y,hy⟩:∃ y,y=m.ti / 8:=⟨_,rfl⟩
 have k1:=Z9 fun W=>zfq m.ti W (by omega) (by omega)
 rw [← hy] at k1 hT
 have hyb : -35184372088832≤y∧y≤35184372088832:=by omega
 obtain ⟨y0,y1⟩:=hyb
 obtain ⟨TT,hTT⟩:∃ TT,TT=s.now-y:=⟨_,rfl⟩
 have e1:s.now-y=TT:=hTT.symm
 have ew:IntKind.i64.wrap (s.now-y)=TT:=by rw [zaw _ (by omega) (by omega)];exact e1
 have T0 : -1000000000000000≤TT:=by omega
 have T1:TT≤1000000000000000:=by omega
 rw [e1] at hT
 obtain ⟨T,hTe⟩:∃ T,T=Jb.meas s m:=⟨_,rfl⟩
 unfold MeasR
 rw [← hTe]
 change Calls _ _ _ _ (MeasQ T A n c w)
 rw [← hTe] at hT
 obtain ⟨on,hon⟩:∃ on,on=s.on:=⟨_,rfl⟩
 rw [show ∀ (x y:Int),(if s.on=true then x else y)=if on=true then x else y from fun x y=>by rw [hon]] at hT
 have HT:=Z9 hT
 have HON:=Z9 hon
 have HQ:=Z9 hq
 have HN:=Z9 hn
 clear hTT hy hT hTe hon hq hn
 go_enter Tryz.func96,Tryz.ntmps96
 go_upto_region 1 with fail
 change Code.wp _ _ _ _ (((w.alloc (.cells #[.int .i64 s.least, .int .i64 s.most, .int .i64 s.now, .bool s.on, .int .i64 s.zero, .int .i64 s.first, .int .i64 s.high, .int .i64 s.done, .int .i64 s.spread, .int .i64 s.trans, .slice A n c, .int .i64 s.late, .int .i64 s.twice, .int .i64 s.played] 37)).alloc (.cells #[.int .i64 m.sq, .int .i64 m.ti, .bool m.mrk, .int .u8 m.ty, .slice MA mn mc] 183)).alloc (.cells (JL Jb.Jt.none none 0 0).toArray 37))
 generalize ((w.alloc _).alloc _).alloc _=W0 at S ⊢
 have b2:W0.cell? ⟨w.heap.size,2,none⟩=some (.int .i64 s.now):=S.bs.at 2 _ rfl
 have m1:W0.cell? ⟨w.heap.size+1,1,none⟩=some (.int .i64 m.ti):=S.bm.at 1 _ rfl
 go_wp2_with fail
 go_quiet ((go_at_call 128;exact Calls.quiet_of_same ((k1.out _).mono fun _ _ h=>⟨h.1,h.2.symm⟩)))
 try rw [e1]
 try rw [ew]
 replace S:=S.drewN nq
 generalize W0.drewN nq=W at S ⊢
 clear b2 m1 k1 e1 ew
 have b3:W.cell? ⟨w.heap.size,3,none⟩=some (.bool on):=by rw [HON.out];exact S.bs.at 3 _ rfl
 cases on
 · go_upto_region 7 with fail
   refine zan (by assumption) ?_
   exact zpp S n0 n1 sp0 (Int.le_trans sp1 (by decide)) c0 c1 c2 HN.out HQ.out hl hA hAt HT.out _ (Fr.mk rfl ⟨rfl,rfl,rfl,rfl,trivial⟩)
 have b8:W.cell? ⟨w.heap.size,8,none⟩=some (.int .i64 s.spread):=S.bs.at 8 _ rfl
 have b9:W.cell? ⟨w.heap.size,9,none⟩=some (.int .i64 s.trans):=S.bs.at 9 _ rfl
 have bfz:=S.bs.frozen
 obtain ⟨sp,hsp⟩:∃ sp,sp=s.spread+max (TT-s.trans) (s.trans-TT)-(s.spread+8) / 16:=⟨_,rfl⟩
 have q0:0≤sp:=by omega
 have q1:sp≤80000000000000000:=by omega
 have HT2:Hid (T=endT (begM { s with spread:=sp,trans:=TT } m) m):=Z9 (by rw [HT.out,hsp];rfl)
 clear HT
 by_cases hlt:TT<s.trans
 · have hs2:s.spread+(s.trans-TT-(s.spread+8) / 16)=sp:=by omega
   have hs3:s.spread+(-(TT-s.trans)-(s.spread+8) / 16)=sp:=by omega
   have hd:TT-s.trans<0:=by omega
   clear hsp
   have HS:=Z9 (And.intro hs2 hs3)
   clear hs2 hs3
   go_upto_region 7 with fail
   first|rw [HS.out.1]|rw [HS.out.2]
   have S2:=S.put 8 (.int .i64 sp) { s with spread:=sp }
   generalize W.setCell _ _=W2 at S2 ⊢
   refine zan (by assumption) ?_
   exact zpp S2 n0 n1 q0 q1 c0 c1 c2 HN.out HQ.out hl hA hAt HT2.out _ (Fr.mk rfl ⟨rfl,rfl,rfl,rfl,trivial⟩)
 · have hs2:s.spread+(TT-s.trans-(s.spread+8) / 16)=sp:=by omega
   have hd:0≤TT-s.trans:=by omega
   clear hsp
   have HS:=Z9 hs2
   clear hs2
   go_upto_region 7 with fail
   rw [HS.out]
   have S2:=S.put 8 (.int .i64 sp) { s with spread:=sp }
   generalize W.setCell _ _=W2 at S2 ⊢
   refine zan (by assumption) ?_
   exact zpp S2 n0 n1 q0 q1 c0 c1 c2 HN.out HQ.out hl hA hAt HT2.out _ (Fr.mk rfl ⟨rfl,rfl,rfl,rfl,trivial⟩)
theorem zjr (le mo nw:Int) (on:Bool) (ze fi hi dn sp tr:Int) (A:Option Addr) (l:List TW) (n qc:Nat) (la tw pd:Int) (sq ti:Int) (mk:Bool) (ty:Int) (MA:Option Addr) (mn mc:Nat) (w:World) (hn:l.length=n)(hl:n≤200) (hA:Wts w w.heap.size A l) (n0:0≤nw) (n1:nw≤281474976710656) (t0 : -281474976710656≤ti) (t1:ti≤281474976710656) (r0 : -1125899906842624≤tr) (r1:tr≤1125899906842624) (s0:0≤sp) (s1:sp≤72057594037927936) (c0:1≤le) (c1:le≤mo) (c2:mo≤1000) (hAt:∀ a∈l,0≤a.w.at_∧a.w.at_≤562949953421312) (pl:List Int):Calls Tryz.prog 96 #[.agg #[.int .i64 le, .int .i64 mo, .int .i64 nw, .bool on, .int .i64 ze, .int .i64 fi, .int .i64 hi, .int .i64 dn, .int .i64 sp, .int .i64 tr, .slice A n qc, .int .i64 la, .int .i64 tw, .int .i64 pd], .agg #[.int .i64 sq, .int .i64 ti, .bool mk, .int .u8 ty, .slice MA mn mc]] w (MeasR ⟨le,mo,nw,on,ze,fi,hi,dn,sp,tr,l.map TW.w,la,tw,pd⟩ ⟨sq,ti,mk,ty,pl⟩ A n qc w):=by
 exact zpq ⟨le,mo,nw,on,ze,fi,hi,dn,sp,tr,l.map TW.w,la,tw,pd⟩ A l n qc ⟨sq,ti,mk,ty,pl⟩ MA mn mc w hn rfl hl hA n0 n1 t0 t1 r0 r1 s0 s1 c0 c1 c2 hAt
end Go.Proofs.YtbcgnddpkiemoaaGreat
namespace Go.Proofs.YtbcgnddpkiemoaaGreat
open Go.RowKit
def Z14:List Value:=[.int .i64 0, .int .i64 0, .int .i64 0, .bool false, .int .i64 0, .int .i64 0, .int .i64 0, .int .i64 0, .int .i64 0, .int .i64 0, .slice none 0 0, .int .i64 0, .int .i64 0, .int .i64 0]
structure PSt (w W:World) (lo B:Nat) (cs ms:List Value) (A1:Option Addr) (l1:List TW) (A2:Option Addr) (n2 c2:Nat) (l2:List TW):Prop where
 bs:Blk W w.heap.size 37 cs.toArray
 bm:Blk W (w.heap.size+1) 183 ms.toArray
 br:Blk W (w.heap.size+1+1) 37 Z14.toArray
 u:Bel w W
 p1:WtsIn W lo B A1 l1
 q2:QOwn W B A2 n2 c2 l2
 lo1:w.heap.size+1+1<lo
 lo2:lo≤B
 hB:B≤W.heap.size
section
variable {w W W':World} {lo B n2 c2:Nat} {cs ms:List Value} {A1 A2:Option Addr} {l1 l2:List TW}
theorem PSt.later (h:PSt w W lo B cs ms A1 l1 A2 n2 c2 l2) (hb:Below W.heap.size W W'):PSt w W' lo B cs ms A1 l1 A2 n2 c2 l2 :=
 ⟨h.bs.later hb,h.bm.later hb,h.br.later hb,h.u.later hb,h.p1.below hb h.hB,h.q2.below hb,h.lo1,h.lo2,Nat.le_trans h.hB hb.size⟩
theorem PSt.set (h:PSt w W lo B cs ms A1 l1 A2 n2 c2 l2) (i:Nat) (v:Value):PSt w (W.setCell ⟨w.heap.size,i,none⟩ v) lo B (cs.set i v) ms A1 l1 A2 n2 c2 l2:=by
 have h1:=h.lo1
 have h2:=h.lo2
 refine ⟨?_,h.bm.far (by simp) _,h.br.far (by simp;omega) _,zaj h.u (Nat.le_refl _) _,h.p1.setCell (by simp;omega) _,h.q2.setCell (by simp;omega) _,h.lo1,h.lo2,by simpa [World.setCell] using h.hB⟩
 have:=h.bs.set_ i v
 simpa using this
theorem PSt.row (h:PSt w W lo B cs ms A1 l1 A2 n2 c2 l2) (vs:List Value) (hl:cs.length=vs.length):PSt w (setRow w.heap.size W 0 vs) lo B vs ms A1 l1 A2 n2 c2 l2:=by
 have h1:=h.lo1
 have h2:=h.lo2
 exact ⟨h.bs.setRow vs (by simpa using hl),h.bm.farRow (by omega) vs W 0,h.br.farRow (by omega) vs W 0,Go.Proofs.YtbcgnddpkiemoaaGreat.below_setRow (Nat.le_refl _) vs W 0 h.u,WtsIn.setRow (by omega) vs W 0 h.p1,QOwn.setRow (by omega) vs W 0 h.q2,h.lo1,h.lo2,by rw [zbs];exact h.hB⟩
theorem PSt.fin (h:PSt w W lo B cs ms A1 l1 A2 n2 c2 l2) (vs:List Value) (hl:vs.length=14):Blk (setRow (w.heap.size+1+1) W 0 vs) (w.heap.size+1+1) 37 vs.toArray∧Wts (setRow (w.heap.size+1+1) W 0 vs) (setRow (w.heap.size+1+1) W 0 vs).heap.size A1 l1∧Wts (setRow (w.heap.size+1+1) W 0 vs) (setRow (w.heap.size+1+1) W 0 vs).heap.size A2 l2∧l2.length=n2∧n2≤c2∧c2≤maxLen∧Below w.heap.size w (setRow (w.heap.size+1+1) W 0 vs):=by
 have h1:=h.lo1
 have h2:=h.lo2
 have q:=QOwn.setRow (g:=w.heap.size+1+1) (by omega) vs W 0 h.q2
 exact ⟨h.br.setRow vs (by simp [Z14,hl]),(WtsIn.setRow (g:=w.heap.size+1+1) (by omega) vs W 0 h.p1).rows.more (by rw [zbs];exact h.hB),q.wts,q.len,q.own.cap,Owns.capm q.own,Go.Proofs.YtbcgnddpkiemoaaGreat.below_setRow (by omega) vs W 0 h.u⟩
theorem PSt.ins {A3:Option Addr} {n3 c3:Nat} {l3:List TW} (h:PSt w W lo B cs ms A1 l1 A2 n2 c2 l2) (hb:Below B W W') (hq:QOwn W' B A3 n3 c3 l3):PSt w W' lo B cs ms A1 l1 A3 n3 c3 l3:=by
 have h1:=h.lo1
 have h2:=h.lo2
 exact ⟨h.bs.below hb (by omega),h.bm.below hb (by omega),h.br.below hb (by omega),h.u.trans (hb.mono (by omega)),h.p1.below hb (Nat.le_refl _),hq,h.lo1,h.lo2,Nat.le_trans h.hB hb.size⟩
end
end Go.Proofs.YtbcgnddpkiemoaaGreat
namespace Go.Proofs.YtbcgnddpkiemoaaGreat
attribute [local go_sem ↓] zab zac
attribute [local go_sem] zaa zad
open Go.RowKit
theorem zpr (s:Jb.Jt) (m:Jb.Md) (now:Int) (h:s.ok) (hm:m.ok) (h1:s.now≤now) (h2:now≤281474976710656) :
 (-1125899906842624≤(Jb.meas (Jb.run0 s now) m).zero∧(Jb.meas (Jb.run0 s now) m).zero≤1125899906842624)∧(-281474976710656≤(Jb.meas (Jb.run0 s now) m).first∧(Jb.meas (Jb.run0 s now) m).first≤281474976710656)∧Jb.okQ now s.high (Jb.left now s.q):=by
 have h0:({ s with played:=0 } : Jb.Jt).ok:=Jb.cnt_ok s h s.late s.twice 0 h.2.2.1.1 h.2.2.1.2.1 (by simp)
 have hd:=zpm now s.q
 have hq:=((Jb.okQ_iff _ _ _).1 h.2.2.2.2).1
 have hr:=Jb.run0_ok { s with played:=0 } now h0 h1 h2 (by show (0:Int)+(Jb.due now s.q).length≤_;omega)
 have hM:=Jb.meas_ok _ m hr hm
 exact ⟨hM.1.2.1,hM.1.2.2.2.1,hr.2.2.2.2⟩
theorem zmq (s:Jb.Jt) (m:Jb.Md) (h0:(s.q.any fun w=>w.m.sq==m.sq)=true):Jb.put0 s m=({ s with twice:=s.twice+1 }, 3):=by unfold Jb.put0;rw [if_pos h0]
theorem zps (s:Jb.Jt) (m:Jb.Md) (h0:(s.q.any fun w=>w.m.sq==m.sq)=false) (h1:s.on=true∧m.sq≤s.done):Jb.put0 s m=({ s with late:=s.late+1 }, 2):=by unfold Jb.put0;rw [if_neg (by rw [h0];simp),if_pos h1]
theorem zpt (s:Jb.Jt) (m:Jb.Md) (h0:(s.q.any fun w=>w.m.sq==m.sq)=false) (h1:¬(s.on=true∧m.sq≤s.done)) (h2:200≤s.q.length):Jb.put0 s m=(s,4):=by unfold Jb.put0;rw [if_neg (by rw [h0];simp),if_neg h1,if_pos h2]
theorem zpu (s:Jb.Jt) (m:Jb.Md) (h0:(s.q.any fun w=>w.m.sq==m.sq)=false) (h1:¬(s.on=true∧m.sq≤s.done)) (h2:¬200≤s.q.length) (s2:Jb.Jt) (AT:Int) (h3:Jb.meas s m=s2) (h4:s2.zero+(m.ti-s2.first) / 8=AT) :
 Jb.put0 s m=if AT≤s.now then ({ s2 with late:=s2.late+1 }, 2) else if s.now+120000<AT then (s2,5) else ({ s2 with q:=Jb.ins s2.q ⟨AT,m⟩ }, 1):=by
 unfold Jb.put0
 rw [if_neg (by rw [h0];simp),if_neg h1,if_neg h2]
 simp only [h3]
 unfold Jb.ptime
 rw [h4]
def JPutR (s:Jb.Jt) (now:Int) (m:Jb.Md) (w:World) (e:Ending) (w':World):Prop :=
 ∃ (A1:Option Addr) (c1:Nat) (l1:List TW) (A2:Option Addr) (c2:Nat) (l2:List TW),e = .returned (.tuple #[JV (Jb.put s now m).1 A2 l2.length c2, .slice A1 l1.length c1, .int .u8 (Jb.put s now m).2.2.1, .int .u8 (Jb.put s now m).2.2.2])∧l1.map TW.w=(Jb.put s now m).2.1∧l2.map TW.w=(Jb.put s now m).1.q∧Wts w' w'.heap.size A1 l1∧Wts w' w'.heap.size A2 l2∧l2.length≤c2∧c2≤maxLen∧Below w.heap.size w w'∧l1.length≤c1∧c1≤maxLen
def JPutW (s:Jb.Jt) (now:Int) (m:Jb.Md) (w:World) (e:Ending) (w':World):Prop :=
 ∃ (A1:Option Addr) (c1:Nat) (l1:List TW) (A2:Option Addr) (c2:Nat) (l2:List TW),e = .returned (.tuple #[JV (Jb.put s now m).1 A2 l2.length c2, .slice A1 l1.length c1, .int .u8 (Jb.put s now m).2.2.1, .int .u8 (Jb.put s now m).2.2.2])∧l1.map TW.w=(Jb.put s now m).2.1∧l2.map TW.w=(Jb.put s now m).1.q∧WtsIn w' w.heap.size w'.heap.size A1 l1∧WtsIn w' w.heap.size w'.heap.size A2 l2∧l2.length≤c2∧c2≤maxLen∧Below w.heap.size w w'∧l1.length≤c1∧c1≤maxLen
theorem JPutW.r {s:Jb.Jt} {now:Int} {m:Jb.Md} {w w':World} {e:Ending} (h:JPutW s now m w e w'):JPutR s now m w e w':=by
 obtain ⟨A1,c1,l1,A2,c2,l2,h1,h2,h3,h4,h5,h6⟩:=h
 exact ⟨A1,c1,l1,A2,c2,l2,h1,h2,h3,h4.rows,h5.rows,h6⟩
end Go.Proofs.YtbcgnddpkiemoaaGreat
