/- Layer 32, reference: New. -/
import Derived.Test.YtahbecinkciahaaGreatSs9Q
import Derived.Test.YtahbecinkciahaaGreatJtPnQ
import Derived.Test.YtahbecinkciahaaGreatSbSamSQ
import Derived.Test.YtahbecinkciahaaGreatSbRDecsQ
import Derived.Test.YtahbecinkciahaaGreatSbSoundsQ
import Derived.Test.YtahbecinkciahaaGreatSbRecvQ
import Derived.Test.YtahbecinkciahaaGreatEvRefHearQ
import Derived.Test.YtahbecinkciahaaGreatRepOkQ
import Derived.Test.YtahbecinkciahaaGreatJtValidQ
import Derived.Laws.Rows
import Derived.RegionTactic
set_option linter.unusedVariables false
set_option linter.unusedSimpArgs false
set_option maxRecDepth 100000
set_option maxHeartbeats 12800000
namespace Go.Proofs.YtahbecinkciahaaGreat
attribute [local go_sem ↓] zae zaf
attribute [local go_sem] zad zag
open Go.RowKit
theorem OkW.q {a:TW} (h:OkW a.w):OkQ a:=⟨h.t0,h.t1,h.z,h.len⟩
theorem zpp {l:List TW} {q:List Jb.Wt} (hl:l.map TW.w=q) (h:∀ a∈q,OkW a):∀ a∈l,OkQ a:=fun a ha=>OkW.q (h a.w (by rw [← hl];exact List.mem_map_of_mem ha))
theorem SOwn.lower' {w:World} {base b0 n c:Nat} {A:Option Addr} {l:List TS} (h:SOwn w base A n c l) (hb:b0≤base):SOwn w b0 A n c l:=by
 refine ⟨h.len,⟨h.own.1,?_⟩,h.pay,h.far,fun a ha h0 b off e=>Nat.le_trans hb (h.new a ha h0 b off e)⟩
 rcases h.own.2 with h2|⟨g',cap,cur,hv,h3,h4⟩
 · exact .inl h2
 · exact .inr ⟨g',cap,cur,hv,Nat.le_trans hb h3,h4⟩
def RRunP (R:Sb.Pt×List Sb.Sd) (l:List TW) (w:World) (e:Ending) (w':World):Prop :=
 ∃ (A2:Option Addr) (n2 c2:Nat) (l2:List TW) (SA:Option Addr) (sm sc:Nat) (ls:List TS) (mid:Nat),e = .returned (.tuple #[.agg (PA R.1 A2 n2 c2), .slice SA sm sc])∧l2.map TW.w=R.1.jt.q∧l2.length=n2∧Wts w' w'.heap.size A2 l2∧Sub w.heap.size A2 l2 l∧ls.map TS.s=R.2∧SOwn w' mid SA sm sc ls∧w.heap.size≤mid∧(0<l2.length→∀ b off,A2=some ⟨b,off,none⟩→b<mid)∧mid≤w'.heap.size∧Below w.heap.size w w'
theorem zcr {w:World} {p:Sb.Pt} {A:Option Addr} {l:List TW} {n c:Nat} {X:Array Value} (C:PC w p A l n c) (hX:X=PA p A n c) (now:Int) (hO:∀ a∈(Jb.run p.jt now).2.1,OkW a) (hL:(Jb.run p.jt now).2.1.length≤100000):Calls Tryz.prog 49 #[.agg X, .int .i64 now] w (RRunP (Sb.run p now) l w):=by
 have S:=RB.new w X hX
 have HQ:=H9 fun (W:World) (u:Bel w W)=>C.qa u (S:=[w.heap.size+1,w.heap.size]) (by intro x hx;simp at hx;omega)
 have k1:=H9 fun (W:World) hW=>zpz p.jt A l n c now W C.q C.len C.n5 C.cap C.cm hW (fun a h=>Nat.le_trans (C.pay a h) (by decide))
 have HSD:=H9 C.wf.seed
 unfold JRunB JV at k1
 have HP:Hid (Sb.run p now=({ p with jt:=(Jb.run p.jt now).1,seed:=(Sb.sounds p.seed (Jb.run p.jt now).2.1).1 }, (Sb.sounds p.seed (Jb.run p.jt now).2.1).2)):=H9 rfl
 rw [HP.out]
 clear HP
 generalize Jb.run p.jt now=RR at *
 obtain ⟨R1,R2,R3⟩:=RR
 dsimp only at k1 hO hL ⊢
 have HO:=H9 hO
 have HL:=H9 hL
 clear hO hL
 clear hX
 go_enter Tryz.func49,Tryz.ntmps49
 go_upto_region 1 with fail
 change Code.wp _ _ _ _ ((w.alloc (Obj.cells X 48)).alloc (Obj.cells (PA Sb.Pt.zero none 0 0) 48))
 obtain ⟨W,hW⟩:∃ W,W=(w.alloc (Obj.cells X 48)).alloc (Obj.cells (PA Sb.Pt.zero none 0 0) 48):=⟨_,rfl⟩
 rw [← hW] at S ⊢
 clear hW
 go_wp2_with (first|(refine zab rfl 40 (.tmp 10) rfl (w.heap.size) 14 rfl 48 (PL p A n c) S.b0 14 _ Tryz.underlying40 zaw (show 14+14≤48 by decide) (#[.int .i64 p.jt.least, .int .i64 p.jt.most, .int .i64 p.jt.now, .bool p.jt.on, .int .i64 p.jt.zero, .int .i64 p.jt.first, .int .i64 p.jt.high, .int .i64 p.jt.done, .int .i64 p.jt.spread, .int .i64 p.jt.trans, .slice A n c, .int .i64 p.jt.late, .int .i64 p.jt.twice, .int .i64 p.jt.played]) (by rfl) rfl ?_)|fail)
 have hLt:=S.lt
 refine (k1.out _ (C.av.later S.u)).mono ?_
 rintro e w1 ⟨A1,c1,l1,A2,c2,l2,rfl,hm1,hm2,hW1,hW2,_,_,hb1,hs1,hs2⟩
 have Q1:QAv w1 [w.heap.size+1,w.heap.size] A1 l1:=QAv.sub_of hW1 hs1 (HQ.out _ S.u) (by intro x hx;simp at hx;omega)
 have Q2:QAv w1 [w.heap.size+1,w.heap.size] A2 l2:=QAv.sub_of hW2 hs2 (HQ.out _ S.u) (by intro x hx;simp at hx;omega)
 have HSub:=H9 (show Sub w.heap.size A2 l2 l from ⟨fun h0 b off e=>Nat.le_trans S.u.size (hs2.row h0 b off e),hs2.sub⟩)
 replace S:=S.later hb1
 have HM1:=H9 hm1
 have HM2:=H9 hm2
 have hLt2:=S.lt
 clear hb1 k1 hm1 hm2 hW1 hW2 hs1 hs2 HQ
 have BJ:=H9 (Blk.new w1 40 (JW R1 A2 l2.length c2).toArray)
 replace S:=S.push (.cells (JW R1 A2 l2.length c2).toArray 40)
 have hbj:Below w1.heap.size w1 (w1.alloc (.cells (JW R1 A2 l2.length c2).toArray 40)):=(Below.refl _ _).alloc (Nat.le_refl _) _
 replace Q1:=Q1.later hbj
 replace Q2:=Q2.later hbj
 obtain ⟨gj,hgj⟩:∃ g,g=w1.heap.size:=⟨_,rfl⟩
 obtain ⟨W3,hW3⟩:∃ V,V=w1.alloc (.cells (JW R1 A2 l2.length c2).toArray 40):=⟨_,rfl⟩
 rw [← hgj,← hW3] at BJ
 rw [← hgj] at hLt2
 go_upto_region 2 with fail
 rw [← hgj]
 change Code.wp _ _ _ _ (w1.alloc (.cells (JW R1 A2 l2.length c2).toArray 40))
 rw [← hW3] at S Q1 Q2 ⊢
 clear hW3 hgj hbj
 go_upto_region 3 with (first|(refine zab rfl 40 (.tmp 6) rfl (gj) 0 rfl 40 (JW R1 A2 l2.length c2) BJ.out 14 _ Tryz.underlying40 zaw (show 0+14≤14 by decide) ((JW R1 A2 l2.length c2).toArray) (by rfl) rfl ?_)|(refine zac rfl 40 (.tmp 18) (.tmp 17) rfl (w.heap.size) 14 rfl 48 (PL p A n c) S.b0 (JW R1 A2 l2.length c2) rfl zaw (show 14+14≤48 by decide) rfl (PL { p with jt:=R1 } A2 l2.length c2) rfl ?_;intro WG BG OG)|fail)
 replace S:=S.over OG BG
 replace Q1:=Q1.chg (Chg.of_only OG (S:=[w.heap.size]) (by simp)) (by simp)
 replace Q2:=Q2.chg (Chg.of_only OG (S:=[w.heap.size]) (by simp)) (by simp)
 have HRB:=H9 (show 0<l2.length→∀ b off,A2=some ⟨b,off,none⟩→b<WG.heap.size from fun h0 b off e=>by
  obtain ⟨b',off',e',hlt,_⟩:=Q2.wts.1 h0
  rw [e] at e'
  injection e' with e'
  injection e' with e1 _
  omega)
 clear BG OG BJ
 have hLg:=S.lt
 have k2:=H9 (zfi { p with jt:=R1 } HSD.out.1 HSD.out.2 A2 l2.length c2 (PA { p with jt:=R1 } A2 l2.length c2) rfl A1 l1 l1.length c1 WG rfl (by have h:=congrArg List.length HM1.out;simp at h;have:=HL.out;omega) Q1.wts (zpp HM1.out HO.out))
 unfold RPlayedR at k2
 rw [HM1.out] at k2
 go_wp2_with (first|(refine zab rfl 48 (.tmp 2) rfl (w.heap.size) 0 rfl 48 (PL { p with jt:=R1 } A2 l2.length c2) S.b0 48 _ Tryz.underlying48 zah (show 0+48≤48 by decide) (PA { p with jt:=R1 } A2 l2.length c2) (by rfl) rfl ?_)|fail)
 refine k2.out.mono ?_
 rintro e w4 ⟨SA,sc,ls,rfl,hls,hso,hb1⟩
 replace S:=S.later hb1
 replace Q2:=Q2.later hb1
 have hws:=S.lt
 have HLS:=H9 hls
 have hs4:=hb1.size
 clear hb1 k2 Q1 hls
 obtain ⟨q,hq⟩:∃ q:Sb.Pt,q = { p with jt:=R1,seed:=(Sb.sounds p.seed R2).1 } := ⟨_,rfl⟩
 rw [← hq]
 have HQQ:=H9 hq
 clear hq
 go_wp2_with (first|(refine zac rfl 48 (.tmp 4) (.tmp 22) rfl (w.heap.size+1) 0 rfl 48 (PL Sb.Pt.zero none 0 0) S.b1 (PL q A2 l2.length c2) rfl zah (show 0+48≤48 by decide) rfl (PL q A2 l2.length c2) rfl ?_;intro WH BH OH)|fail)
 exact bodyPost_ret (v := .tuple #[.agg (PA q A2 l2.length c2), .slice SA l1.length sc]) (zdn Tryz.results49 rfl (PB.load BH) rfl) rfl ⟨A2,l2.length,c2,l2,SA,l1.length,sc,ls,WG.heap.size,by rw [HQQ.out],HM2.out,rfl,(Q2.chg (Chg.of_only OH (S:=[w.heap.size+1]) (by simp)) (by simp)).wts,HSub.out,HLS.out,(hso.only OH (by have:=hLg;omega)).lower' (by omega),by have:=hLg;omega,HRB.out,by rw [OH.2];exact hs4,OH.bel S.u (by omega)⟩
theorem zwk {w W:World} {p:Sb.Pt} {A:Option Addr} {l:List TW} {n c:Nat} {x:Rx} {now:Int} (C:VC w p A l n c x now) (S:RS w W p A n c x) (a:Act) (ha:Fr 199 [(1, .int .i64 now),(3, .pointer (some ⟨w.heap.size,0,none⟩)),(5, .pointer (some ⟨w.heap.size+1,0,none⟩)),(6, .pointer (some ⟨w.heap.size+1+1,0,none⟩))] a)
 (h:Sb.known x.arr=true→∀ (W:World) (gt:Nat) (a:Act),RS w W p A n c x→Blk W gt 108 (Ev.decT x.pl).1.row→w.heap.size+1+1<gt→Fr 199 [(1, .int .i64 now),(3, .pointer (some ⟨w.heap.size,0,none⟩)),(5, .pointer (some ⟨w.heap.size+1,0,none⟩)),(6, .pointer (some ⟨w.heap.size+1+1,0,none⟩)),(10, .pointer (some ⟨gt,0,none⟩))] a→firstWp Tryz.prog rv9_code (bodyPost Tryz.prog Tryz.f12 (RecvX ((Sb.recv0 p now x.arr).1,(Sb.recv0 p now x.arr).2.1,(Sb.recv0 p now x.arr).2.2,0) w)) a W):firstWp Tryz.prog rv5_code (bodyPost Tryz.prog Tryz.f12 (RecvX ((Sb.recv0 p now x.arr).1,(Sb.recv0 p now x.arr).2.1,(Sb.recv0 p now x.arr).2.2,0) w)) a W:=by
 obtain ⟨s,rfl,e1,e3,e5,e6,_⟩:=ha
 rw [r199,e1,e3,e5,e6]
 clear e1 e3 e5 e6
 have hm:x.pl.length≤maxLen:=by have:=C.rc.h15;unfold maxLen;omega
 have k1:=fun (W:World) hW=>zgf x.B x.pl x.pc W hW C.zb hm
 have k2:=H9 fun W=>zdi x.ty W
 have hrun:(Jb.run p.jt now).2.1.length≤100000∧∀ a∈(Jb.run p.jt now).2.1,OkW a:=by
  have hql:p.jt.q.length≤100000:=by rw [← C.pc.q];simp;have:=C.pc.len;have:=C.pc.n5;omega
  unfold Jb.run
  split
  · exact ⟨Nat.le_trans (List.takeWhile_sublist _).length_le hql,zce C.rc.ok⟩
  · exact ⟨by simp,fun a ha=>by cases ha⟩
 have HRN:=H9 hrun
 clear hrun
 obtain ⟨RR,hRR⟩:∃ R,R=Sb.recv0 p now x.arr:=⟨_,rfl⟩
 rw [← hRR] at h ⊢
 have hun:Sb.known x.arr=false→RR=((Sb.run p now).1,5,(Sb.run p now).2):=fun hk=>by rw [hRR];unfold Sb.recv0;rw [if_pos hk]
 have hkd:Sb.known x.arr=(speechB x.ty||x.ty==13||(x.ty==101&&(Ev.decT x.pl).2==0)):=rfl
 generalize Sb.known x.arr=kn at *
 generalize Ev.decT x.pl=DT at *
 obtain ⟨T,er⟩:=DT
 obtain ⟨tcode,tfin,tvol,tdur⟩:=T
 dsimp only at k1 hkd h
 unfold Ev.Tone.row at k1 h
 replace k1:=H9 k1
 have HH:=H9 h
 have HUN:=H9 hun
 have HKD:=H9 hkd
 clear h hun hkd hRR hm
 refine zau ?_
 intro _ _
 have y9:=S.c9
 go_wp2_with fail
 refine (k1.out _ (C.rc.pl.later S.u)).mono ?_
 rintro e w2 ⟨rfl,hb1⟩
 replace S:=S.later hb1
 have hL:=S.lt
 clear hb1 k1 y9
 have BT:=H9 (Blk.new w2 108 #[.int .u8 tcode, .bool tfin, .int .u8 tvol, .int .u16 tdur])
 replace S:=S.push (.cells #[.int .u8 tcode, .bool tfin, .int .u8 tvol, .int .u16 tdur] 108)
 obtain ⟨gt,hgt⟩:∃ g,g=w2.heap.size:=⟨_,rfl⟩
 obtain ⟨W3,hW3⟩:∃ V,V=w2.alloc (.cells #[.int .u8 tcode, .bool tfin, .int .u8 tvol, .int .u16 tdur] 108):=⟨_,rfl⟩
 rw [← hgt,← hW3] at BT
 rw [← hgt] at hL
 go_upto_region 6 with fail
 rw [← hgt]
 rw [← hW3] at S ⊢
 clear hW3 hgt
 have y1:=S.c1
 obtain ⟨sp,hsp⟩:∃ v,v=speechB x.ty:=⟨_,rfl⟩
 rw [← hsp] at k2 HKD
 have HSP:=H9 hsp
 clear hsp
 go_wp2_with fail
 refine (k2.out _).mono ?_
 rintro e w1 ⟨rfl,hb1⟩
 replace S:=S.later hb1
 replace BT:=H9 (BT.out.later hb1)
 clear hb1 k2 y1
 have y1:=S.c1
 by_cases h13:x.ty=13
 · obtain rfl:sp=false:=by rw [HSP.out,h13];rfl
   obtain rfl:kn=true:=by rw [HKD.out,h13];rfl
   have H13:=H9 h13
   rw [h13] at y1
   clear h13
   clear HSP HKD HUN
   go_upto_region 9 with fail
   refine zas (by assumption) ?_
   exact HH.out (by first|rfl|trivial) _ gt _ S BT.out hL (Fr.mk rfl ⟨rfl,rfl,rfl,rfl,rfl,trivial⟩)
 have n13:(x.ty != 13)=true:=by simpa using h13
 by_cases h101:x.ty=101
 · obtain rfl:sp=false:=by rw [HSP.out,h101];rfl
   have HKE:Hid (kn=(er==0)):=H9 (by rw [HKD.out,h101];rfl)
   rw [h101] at y1
   clear h101 h13 n13
   by_cases her:er=0
   · subst her
     obtain rfl:kn=true:=by rw [HKE.out];rfl
     clear HSP HKD HKE HUN
     go_upto_region 9 with fail
     refine zas (by assumption) ?_
     exact HH.out (by first|rfl|trivial) _ gt _ S BT.out hL (Fr.mk rfl ⟨rfl,rfl,rfl,rfl,rfl,trivial⟩)
   · have he2:(er==0)=false:=by simpa using her
     obtain rfl:kn=false:=by rw [HKE.out,he2]
     have he3:(er != 0)=true:=by simpa using her
     obtain rfl:RR=((Sb.run p now).1,5,(Sb.run p now).2):=HUN.out (by first|rfl|trivial)
     clear HH HKD HKE HUN HSP BT
     have C1:=C.pc
     have k3:=H9 fun (W:World) (hW:Bel w W)=>zcr (p:=p) (C1.later hW) rfl now HRN.out.2 HRN.out.1
     unfold RRunP at k3
     have HNK:=H9 (show ∀ ls:List TS,ls.map TS.s=(Sb.run p now).2→∀ a∈ls,a.s.ks=[] from fun ls h=>zgg h)
     generalize Sb.run p now=RU at *
     obtain ⟨q,sd⟩:=RU
     dsimp only at k3 HNK
     go_upto_region 7 with fail
     try clear y1
     have hLc:=S.lt
     have Q0:=C.pc.qa S.u (S:=[w.heap.size+1+1]) (by intro x hx;simp at hx;omega)
     go_wp2_with (first|(refine zab rfl 48 (.tmp 3) rfl (w.heap.size) 0 rfl 48 (PL p A n c) S.b0 48 _ Tryz.underlying48 zah (show 0+48≤48 by decide) (PA p A n c) (by rfl) rfl ?_)|fail)
     refine (k3.out _ S.u).mono ?_
     rintro e w4 ⟨A4,n4,c4,l4,SA,sm,sc,ls,mid,rfl,hq4,hn4,hW4,hs4,hls,hso,hmid,hrb,hmz,hb1⟩
     replace hso:=hso.lower' hmid
     replace S:=S.later hb1
     have Q4:QAv w4 [w.heap.size+1+1] A4 l4:=QAv.sub_of hW4 hs4 Q0 (by intro x hx;simp at hx;omega)
     have HX4:=H9 (And.intro hq4 (And.intro hn4 hls))
     clear hb1 k3 hq4 hn4 hls hW4 hs4 Q0 hmid hrb
     have BZ:Blk (w4.alloc (Obj.cells (PA Sb.Pt.zero none 0 0) 48)) w4.heap.size 48 (PL Sb.Pt.zero none 0 0).toArray:=Blk.new _ _ _
     go_upto_region 8 with (first|(refine zac rfl 48 (.tmp 12) (.tmp 83) rfl (w4.heap.size) 0 rfl 48 (PL Sb.Pt.zero none 0 0) BZ (PL q A4 n4 c4) rfl zah (show 0+48≤48 by decide) rfl (PL q A4 n4 c4) rfl ?_;intro W5 Bq OB)|fail)
     have hbb:=OB.below ((Below.refl _ w4).alloc (Nat.le_refl _) _) (by simp) (Nat.le_refl _)
     replace S:=S.later hbb
     replace Q4:=Q4.later hbb
     replace hso:=hso.below hbb
     replace Bq:=H9 (show PB W5 w4.heap.size q A4 n4 c4 from Bq)
     obtain ⟨gq,hgq⟩:∃ g,g=w4.heap.size:=⟨_,rfl⟩
     rw [← hgq] at Bq ⊢
     clear hgq OB BZ hbb
     have hLd:=S.lt
     go_wp2_with (first|(refine zab rfl 48 (.tmp 12) rfl (gq) 0 rfl 48 (PL q A4 n4 c4) Bq.out 48 _ Tryz.underlying48 zah (show 0+48≤48 by decide) (PA q A4 n4 c4) (by rfl) rfl ?_)|(refine zac rfl 48 (.tmp 6) (.tmp 85) rfl (w.heap.size+1+1) 0 rfl 48 (PL Sb.Pt.zero none 0 0) S.b2 (PL q A4 n4 c4) rfl zah (show 0+48≤48 by decide) rfl (PL q A4 n4 c4) rfl ?_;intro WH BH OH)|fail)
     refine bodyPost_ret (v := .tuple #[.agg (PA q A4 n4 c4), .int .u8 5, .slice SA sm sc, .int .u8 0]) (zar Tryz.results12 rfl (PB.load BH) rfl rfl rfl) rfl ⟨A4,n4,c4,SA,sm,sc,ls.map TS.ty,rfl,⟨l4,HX4.out.1,HX4.out.2.1,(Q4.chg (Chg.of_only OH (S:=[w.heap.size+1+1]) (by simp)) (by simp)).wts⟩,(ty_s ls).trans HX4.out.2.2,by simpa using hso.len,?_,OH.bel S.u (by omega)⟩
     exact ((hso.only OH (by omega)).sks (HNK.out ls HX4.out.2.2)).less (Nat.zero_le _)
 have n101:(x.ty != 101)=true:=by simpa using h101
 have m101:(x.ty==101)=false:=by simpa using h101
 have m13:(x.ty==13)=false:=by simpa using h13
 cases sp
 · obtain rfl:kn=false:=by rw [HKD.out,m13,m101];rfl
   obtain rfl:RR=((Sb.run p now).1,5,(Sb.run p now).2):=HUN.out (by first|rfl|trivial)
   clear HH HKD HUN HSP BT
   have C1:=C.pc
   have k3:=H9 fun (W:World) (hW:Bel w W)=>zcr (p:=p) (C1.later hW) rfl now HRN.out.2 HRN.out.1
   unfold RRunP at k3
   have HNK:=H9 (show ∀ ls:List TS,ls.map TS.s=(Sb.run p now).2→∀ a∈ls,a.s.ks=[] from fun ls h=>zgg h)
   generalize Sb.run p now=RU at *
   obtain ⟨q,sd⟩:=RU
   dsimp only at k3 HNK
   go_upto_region 7 with fail
   try clear y1
   have hLc:=S.lt
   have Q0:=C.pc.qa S.u (S:=[w.heap.size+1+1]) (by intro x hx;simp at hx;omega)
   go_wp2_with (first|(refine zab rfl 48 (.tmp 3) rfl (w.heap.size) 0 rfl 48 (PL p A n c) S.b0 48 _ Tryz.underlying48 zah (show 0+48≤48 by decide) (PA p A n c) (by rfl) rfl ?_)|fail)
   refine (k3.out _ S.u).mono ?_
   rintro e w4 ⟨A4,n4,c4,l4,SA,sm,sc,ls,mid,rfl,hq4,hn4,hW4,hs4,hls,hso,hmid,hrb,hmz,hb1⟩
   replace hso:=hso.lower' hmid
   replace S:=S.later hb1
   have Q4:QAv w4 [w.heap.size+1+1] A4 l4:=QAv.sub_of hW4 hs4 Q0 (by intro x hx;simp at hx;omega)
   have HX4:=H9 (And.intro hq4 (And.intro hn4 hls))
   clear hb1 k3 hq4 hn4 hls hW4 hs4 Q0 hmid hrb
   have BZ:Blk (w4.alloc (Obj.cells (PA Sb.Pt.zero none 0 0) 48)) w4.heap.size 48 (PL Sb.Pt.zero none 0 0).toArray:=Blk.new _ _ _
   go_upto_region 8 with (first|(refine zac rfl 48 (.tmp 12) (.tmp 83) rfl (w4.heap.size) 0 rfl 48 (PL Sb.Pt.zero none 0 0) BZ (PL q A4 n4 c4) rfl zah (show 0+48≤48 by decide) rfl (PL q A4 n4 c4) rfl ?_;intro W5 Bq OB)|fail)
   have hbb:=OB.below ((Below.refl _ w4).alloc (Nat.le_refl _) _) (by simp) (Nat.le_refl _)
   replace S:=S.later hbb
   replace Q4:=Q4.later hbb
   replace hso:=hso.below hbb
   replace Bq:=H9 (show PB W5 w4.heap.size q A4 n4 c4 from Bq)
   obtain ⟨gq,hgq⟩:∃ g,g=w4.heap.size:=⟨_,rfl⟩
   rw [← hgq] at Bq ⊢
   clear hgq OB BZ hbb
   have hLd:=S.lt
   go_wp2_with (first|(refine zab rfl 48 (.tmp 12) rfl (gq) 0 rfl 48 (PL q A4 n4 c4) Bq.out 48 _ Tryz.underlying48 zah (show 0+48≤48 by decide) (PA q A4 n4 c4) (by rfl) rfl ?_)|(refine zac rfl 48 (.tmp 6) (.tmp 85) rfl (w.heap.size+1+1) 0 rfl 48 (PL Sb.Pt.zero none 0 0) S.b2 (PL q A4 n4 c4) rfl zah (show 0+48≤48 by decide) rfl (PL q A4 n4 c4) rfl ?_;intro WH BH OH)|fail)
   refine bodyPost_ret (v := .tuple #[.agg (PA q A4 n4 c4), .int .u8 5, .slice SA sm sc, .int .u8 0]) (zar Tryz.results12 rfl (PB.load BH) rfl rfl rfl) rfl ⟨A4,n4,c4,SA,sm,sc,ls.map TS.ty,rfl,⟨l4,HX4.out.1,HX4.out.2.1,(Q4.chg (Chg.of_only OH (S:=[w.heap.size+1+1]) (by simp)) (by simp)).wts⟩,(ty_s ls).trans HX4.out.2.2,by simpa using hso.len,?_,OH.bel S.u (by omega)⟩
   exact ((hso.only OH (by omega)).sks (HNK.out ls HX4.out.2.2)).less (Nat.zero_le _)
 · obtain rfl:kn=true:=by rw [HKD.out,m13,m101];rfl
   clear HSP HKD HUN
   go_upto_region 9 with fail
   refine zas (by assumption) ?_
   exact HH.out (by first|rfl|trivial) _ gt _ S BT.out hL (Fr.mk rfl ⟨rfl,rfl,rfl,rfl,rfl,trivial⟩)
theorem PC.same {w:World} {p q:Sb.Pt} {A:Option Addr} {l:List TW} {n c:Nat} (h:PC w p A l n c) (hw:q.wf) (hj:q.jt=p.jt):PC w q A l n c:=⟨hw,by rw [hj];exact h.q,h.len,h.n5,h.cap,h.cm,h.av,h.sq,h.pay⟩
theorem zwl {w W:World} {p:Sb.Pt} {A:Option Addr} {l:List TW} {n c:Nat} {x:Rx} {now:Int} (C:VC w p A l n c x now) (S:RS w W p A n c x) {gt:Nat} (BT:Blk W gt 108 (Ev.decT x.pl).1.row) (hgt:w.heap.size+1+1<gt) (hk:Sb.known x.arr=true) (hnr:p.near) (a:Act) (ha:Fr 199 [(1, .int .i64 now),(3, .pointer (some ⟨w.heap.size,0,none⟩)),(5, .pointer (some ⟨w.heap.size+1,0,none⟩)),(6, .pointer (some ⟨w.heap.size+1+1,0,none⟩)),(10, .pointer (some ⟨gt,0,none⟩))] a)
 (h:(Pk.follow p.tk x.sq).2.2=true→∀ (W:World) (a:Act),RS w W { p with tk:=(Pk.follow p.tk x.sq).1 } A n c x→Blk W gt 108 (Ev.decT x.pl).1.row→Fr 199 [(1, .int .i64 now),(3, .pointer (some ⟨w.heap.size,0,none⟩)),(5, .pointer (some ⟨w.heap.size+1,0,none⟩)),(6, .pointer (some ⟨w.heap.size+1+1,0,none⟩)),(10, .pointer (some ⟨gt,0,none⟩)),(14, .bool (!p.tk.on)),(16, .int .i64 (Pk.follow p.tk x.sq).2.1)] a→firstWp Tryz.prog rv15_code (bodyPost Tryz.prog Tryz.f12 (RecvX ((Sb.recv0 p now x.arr).1,(Sb.recv0 p now x.arr).2.1,(Sb.recv0 p now x.arr).2.2,0) w)) a W):firstWp Tryz.prog rv9_code (bodyPost Tryz.prog Tryz.f12 (RecvX ((Sb.recv0 p now x.arr).1,(Sb.recv0 p now x.arr).2.1,(Sb.recv0 p now x.arr).2.2,0) w)) a W:=by
 obtain ⟨s,rfl,e1,e3,e5,e6,e10,_⟩:=ha
 rw [r199,e1,e3,e5,e6,e10]
 clear e1 e3 e5 e6 e10
 have hrun:(Jb.run p.jt now).2.1.length≤100000∧∀ a∈(Jb.run p.jt now).2.1,OkW a:=by
  have hql:p.jt.q.length≤100000:=by rw [← C.pc.q];simp;have:=C.pc.len;have:=C.pc.n5;omega
  unfold Jb.run
  split
  · exact ⟨Nat.le_trans (List.takeWhile_sublist _).length_le hql,zce C.rc.ok⟩
  · exact ⟨by simp,fun a ha=>by cases ha⟩
 have HRN:=H9 hrun
 clear hrun
 have k1:=fun (W:World)=>zlo p.tk.on p.tk.high p.tk.jump x.sq W C.rc.q0 C.rc.q1 (by have:=hnr.1;omega) (by have:=hnr.2.1;omega) (by have:=hnr.2.2.1;omega) (by have:=hnr.2.2.2.1;omega)
 obtain ⟨RR,hRR⟩:∃ R,R=Sb.recv0 p now x.arr:=⟨_,rfl⟩
 rw [← hRR] at h ⊢
 have hun:(Pk.follow p.tk x.sq).2.2=false→RR=((Sb.run { p with tk:=(Pk.follow p.tk x.sq).1 } now).1,5,(Sb.run { p with tk:=(Pk.follow p.tk x.sq).1 } now).2):=fun hf=>by
  have hf2:(Pk.follow p.tk x.arr.sq).2.2=false:=hf
  rw [hRR];unfold Sb.recv0;rw [if_neg (by rw [hk];decide)];dsimp only;rw [if_pos hf2];rfl
 generalize Pk.follow ⟨p.tk.on,p.tk.high,p.tk.jump⟩ x.sq=FW at *
 obtain ⟨⟨T1,T2,T3⟩,fn,ok⟩:=FW
 unfold Pk.Tr.row at k1
 dsimp only at k1 h hun ⊢
 replace k1:=H9 k1
 have HH:=H9 h
 have HUN:=H9 hun
 have HBT:=H9 BT
 have C1:PC w { p with tk:=⟨T1,T2,T3⟩ } A l n c:=C.pc.same ⟨C.pc.wf.codec,C.pc.wf.src,C.pc.wf.seq,C.pc.wf.time,C.pc.wf.below,C.pc.wf.tvol,C.pc.wf.tcode,C.pc.wf.tst,C.pc.wf.seed,C.pc.wf.pk,C.pc.wf.oc⟩ rfl
 have hgt2:w.heap.size≠gt:=by omega
 clear h hun hRR hk hnr BT
 refine zau ?_
 intro _ _
 have x28:=S.cell 28 _ rfl
 go_upto_region 10 with fail
 have y2:=S.c2
 go_wp2_with (first|(refine zab rfl 42 (.tmp 92) rfl (w.heap.size) 28 rfl 48 (PL p A n c) S.b0 3 _ Tryz.underlying42 zcx (show 28+3≤48 by decide) (#[.bool p.tk.on, .int .i64 p.tk.high, .int .i64 p.tk.jump]) (by rfl) rfl ?_)|fail)
 refine (k1.out _).mono ?_
 rintro e w2 ⟨rfl,hb1⟩
 replace S:=S.later hb1
 replace HBT:=H9 (HBT.out.later hb1)
 have hL:=S.lt
 have hbt:=HBT.out.lt
 clear hb1 k1 x28 y2
 have BK:=H9 (Blk.new w2 42 #[.bool T1, .int .i64 T2, .int .i64 T3])
 replace S:=S.push (.cells #[.bool T1, .int .i64 T2, .int .i64 T3] 42)
 replace HBT:=H9 (HBT.out.push (.cells #[.bool T1, .int .i64 T2, .int .i64 T3] 42))
 obtain ⟨gk,hgk⟩:∃ g,g=w2.heap.size:=⟨_,rfl⟩
 obtain ⟨W3,hW3⟩:∃ V,V=w2.alloc (.cells #[.bool T1, .int .i64 T2, .int .i64 T3] 42):=⟨_,rfl⟩
 rw [← hgk,← hW3] at BK
 rw [← hgk] at hL hbt
 rw [← hW3] at HBT
 go_upto_region 11 with fail
 rw [← hgk]
 rw [← hW3] at S ⊢
 clear hW3 hgk
 go_upto_region 12 with (first|(refine zab rfl 42 (.tmp 15) rfl (gk) 0 rfl 42 ([.bool T1, .int .i64 T2, .int .i64 T3]) BK.out 3 _ Tryz.underlying42 zcx (show 0+3≤3 by decide) (#[.bool T1, .int .i64 T2, .int .i64 T3]) (by rfl) rfl ?_)|(refine zac rfl 42 (.tmp 101) (.tmp 100) rfl (w.heap.size) 28 rfl 48 (PL p A n c) S.b0 ([.bool T1, .int .i64 T2, .int .i64 T3]) rfl zcx (show 28+3≤48 by decide) rfl (PL { p with tk:=⟨T1,T2,T3⟩ } A n c) rfl ?_;intro WG BG OG)|fail)
 replace S:=S.over OG BG
 replace HBT:=H9 (OG.blk HBT.out (by omega))
 clear BG OG BK
 cases ok
 · obtain rfl:RR=((Sb.run { p with tk:=⟨T1,T2,T3⟩ } now).1,5,(Sb.run { p with tk:=⟨T1,T2,T3⟩ } now).2):=HUN.out (by first|rfl|trivial)
   clear HH HUN HBT
   have k3:=H9 fun (W:World) (hW:Bel w W)=>zcr (p := { p with tk:=⟨T1,T2,T3⟩ }) (C1.later hW) rfl now HRN.out.2 HRN.out.1
   unfold RRunP at k3
   have HNK:=H9 (show ∀ ls:List TS,ls.map TS.s=(Sb.run { p with tk:=⟨T1,T2,T3⟩ } now).2→∀ a∈ls,a.s.ks=[] from fun ls h=>zgg h)
   generalize Sb.run { p with tk:=⟨T1,T2,T3⟩ } now=RU at *
   obtain ⟨q,sd⟩:=RU
   dsimp only at k3 HNK
   go_upto_region 13 with fail
   have hLc:=S.lt
   have Q0:=C.pc.qa S.u (S:=[w.heap.size+1+1]) (by intro x hx;simp at hx;omega)
   go_wp2_with (first|(refine zab rfl 48 (.tmp 3) rfl (w.heap.size) 0 rfl 48 (PL { p with tk:=⟨T1,T2,T3⟩ } A n c) S.b0 48 _ Tryz.underlying48 zah (show 0+48≤48 by decide) (PA { p with tk:=⟨T1,T2,T3⟩ } A n c) (by rfl) rfl ?_)|fail)
   refine (k3.out _ S.u).mono ?_
   rintro e w4 ⟨A4,n4,c4,l4,SA,sm,sc,ls,mid,rfl,hq4,hn4,hW4,hs4,hls,hso,hmid,hrb,hmz,hb1⟩
   replace hso:=hso.lower' hmid
   replace S:=S.later hb1
   have Q4:QAv w4 [w.heap.size+1+1] A4 l4:=QAv.sub_of hW4 hs4 Q0 (by intro x hx;simp at hx;omega)
   have HX4:=H9 (And.intro hq4 (And.intro hn4 hls))
   clear hb1 k3 hq4 hn4 hls hW4 hs4 Q0 hmid hrb
   have BZ:Blk (w4.alloc (Obj.cells (PA Sb.Pt.zero none 0 0) 48)) w4.heap.size 48 (PL Sb.Pt.zero none 0 0).toArray:=Blk.new _ _ _
   go_upto_region 14 with (first|(refine zac rfl 48 (.tmp 18) (.tmp 108) rfl (w4.heap.size) 0 rfl 48 (PL Sb.Pt.zero none 0 0) BZ (PL q A4 n4 c4) rfl zah (show 0+48≤48 by decide) rfl (PL q A4 n4 c4) rfl ?_;intro W5 Bq OB)|fail)
   have hbb:=OB.below ((Below.refl _ w4).alloc (Nat.le_refl _) _) (by simp) (Nat.le_refl _)
   replace S:=S.later hbb
   replace Q4:=Q4.later hbb
   replace hso:=hso.below hbb
   replace Bq:=H9 (show PB W5 w4.heap.size q A4 n4 c4 from Bq)
   obtain ⟨gq,hgq⟩:∃ g,g=w4.heap.size:=⟨_,rfl⟩
   rw [← hgq] at Bq ⊢
   clear hgq OB BZ hbb
   have hLd:=S.lt
   go_wp2_with (first|(refine zab rfl 48 (.tmp 18) rfl (gq) 0 rfl 48 (PL q A4 n4 c4) Bq.out 48 _ Tryz.underlying48 zah (show 0+48≤48 by decide) (PA q A4 n4 c4) (by rfl) rfl ?_)|(refine zac rfl 48 (.tmp 6) (.tmp 110) rfl (w.heap.size+1+1) 0 rfl 48 (PL Sb.Pt.zero none 0 0) S.b2 (PL q A4 n4 c4) rfl zah (show 0+48≤48 by decide) rfl (PL q A4 n4 c4) rfl ?_;intro WH BH OH)|fail)
   refine bodyPost_ret (v := .tuple #[.agg (PA q A4 n4 c4), .int .u8 5, .slice SA sm sc, .int .u8 0]) (zar Tryz.results12 rfl (PB.load BH) rfl rfl rfl) rfl ⟨A4,n4,c4,SA,sm,sc,ls.map TS.ty,rfl,⟨l4,HX4.out.1,HX4.out.2.1,(Q4.chg (Chg.of_only OH (S:=[w.heap.size+1+1]) (by simp)) (by simp)).wts⟩,(ty_s ls).trans HX4.out.2.2,by simpa using hso.len,?_,OH.bel S.u (by omega)⟩
   exact ((hso.only OH (by omega)).sks (HNK.out ls HX4.out.2.2)).less (Nat.zero_le _)
 · clear HUN
   go_upto_region 15 with fail
   refine zbk (by assumption) (by assumption) ?_
   exact HH.out (by first|rfl|trivial) _ _ S HBT.out (Fr.mk rfl ⟨rfl,rfl,rfl,rfl,rfl,rfl,rfl,trivial⟩)
theorem zsa (bs:List Int) (hb:Within 0 255 bs):0≤(Ev.decT bs).1.vol∧0≤(Ev.decT bs).1.dur∧(Ev.decT bs).1.dur≤65535:=by
 unfold Ev.decT
 by_cases h4:bs.length<4
 · rw [if_pos h4];simp [Ev.Tone.zero]
 · rw [if_neg h4]
   have b1:=hb.at (i:=1) (by omega)
   have b2:=hb.at (i:=2) (by omega)
   have b3:=hb.at (i:=3) (by omega)
   split
   · simp [Ev.Tone.zero]
   · simp only;omega
theorem zpq:(Tryz.prog.info? 108).map (·.size)=some 4:=by kernel_rfl
theorem zsb {w W:World} {p:Sb.Pt} {A:Option Addr} {l:List TW} {n c:Nat} {x:Rx} {now:Int} (C:VC w p A l n c x now) (S:RS w W p A n c x) {gt:Nat} (BT:Blk W gt 108 (Ev.decT x.pl).1.row) (hgt:w.heap.size+1+1<gt) {fs:Bool} {fn:Int} (hty:x.ty=101) (a:Act) (ha:Fr 199 [(1, .int .i64 now),(3, .pointer (some ⟨w.heap.size,0,none⟩)),(5, .pointer (some ⟨w.heap.size+1,0,none⟩)),(6, .pointer (some ⟨w.heap.size+1+1,0,none⟩)),(10, .pointer (some ⟨gt,0,none⟩)),(14, .bool fs),(16, .int .i64 fn)] a):firstWp Tryz.prog rv15_code (bodyPost Tryz.prog Tryz.f12 (RecvX ({ (Sb.run p now).1 with hd:=(Ev.hear p.hd x.ti (Ev.decT x.pl).1).1 }, 1,(Sb.run p now).2++(if (Ev.hear p.hd x.ti (Ev.decT x.pl).1).2=[] then [] else [⟨now,[],(Ev.hear p.hd x.ti (Ev.decT x.pl).1).2⟩]),0) w)) a W:=by
 obtain ⟨s,rfl,e1,e3,e5,e6,e10,e14,e16,_⟩:=ha
 rw [r199,e1,e3,e5,e6,e10,e14,e16]
 clear e1 e3 e5 e6 e10 e14 e16
 have hrun:(Jb.run p.jt now).2.1.length≤100000∧∀ a∈(Jb.run p.jt now).2.1,OkW a:=by
  have hql:p.jt.q.length≤100000:=by rw [← C.pc.q];simp;have:=C.pc.len;have:=C.pc.n5;omega
  unfold Jb.run
  split
  · exact ⟨Nat.le_trans (List.takeWhile_sublist _).length_le hql,zce C.rc.ok⟩
  · exact ⟨by simp,fun a ha=>by cases ha⟩
 have HRN:=H9 hrun
 clear hrun
 have k3:=H9 fun (W:World) (hW:Bel w W)=>zcr (p:=p) (C.pc.later hW) rfl now HRN.out.2 HRN.out.1
 unfold RRunP at k3
 have hnk:=fun (ls:List TS) (h:ls.map TS.s=(Sb.run p now).2)=>zgg (s:=p.seed) (l:=(Jb.run p.jt now).2.1) h
 have HNK:=H9 hnk
 have hsl:(Sb.run p now).2.length≤100000:=by
  have h:∀ (l:List Jb.Wt) (s:Int),(Sb.sounds s l).2.length=l.length:=fun l=>by
   induction l with
   | nil=>intro s;rfl
   | cons a l ih=>intro s;show (_::_).length=_;rw [List.length_cons,ih,List.length_cons]
  show (Sb.sounds _ _).2.length≤_
  rw [h];exact HRN.out.1
 have hqd:(Sb.run p now).1.hd=p.hd:=rfl
 have hdd:=(zsa x.pl C.zb).2
 generalize Ev.decT x.pl=DT at *
 obtain ⟨⟨tcode,tfin,tvol,tdur⟩,ter⟩:=DT
 dsimp only at BT hdd ⊢
 unfold Ev.Tone.row at BT
 have k4:=fun (W:World)=>zrb p.hd.on p.hd.time p.hd.code p.hd.len p.hd.ended x.ti tcode tfin tvol tdur W C.rc.t0 C.rc.t1 C.h0 C.h1 hdd.1 hdd.2 C.l0 C.l1
 generalize hHK:Ev.hear ⟨p.hd.on,p.hd.time,p.hd.code,p.hd.len,p.hd.ended⟩ x.ti ⟨tcode,tfin,tvol,tdur⟩=HK at k4 ⊢
 obtain ⟨H,ks⟩:=HK
 unfold Ev.HearR Ev.Rcv.row at k4
 dsimp only at k4 ⊢
 replace k4:=H9 k4
 generalize Sb.run p now=RU at *
 obtain ⟨q,sd⟩:=RU
 dsimp only at k3 HNK hsl hqd ⊢
 have k5:=k4.out
 rw [← hqd] at k5
 replace k4:=H9 k5
 clear k5
 obtain ⟨more,hmore⟩:∃ m:List Sb.Sd,m=(if ks=[] then [] else [⟨now,[],ks⟩]):=⟨_,rfl⟩
 rw [← hmore]
 have HM:=H9 hmore
 have HQD:=H9 hqd
 have HSL:=H9 hsl
 clear hmore hqd hnk hsl HRN hHK hdd
 have HBT:=H9 BT
 have HPA:=H9 C.pc.av
 refine zay ?_
 intro _ _ _ _
 have y1:=S.c1
 rw [hty] at y1
 clear hty BT
 go_upto_region 16 with fail
 clear y1
 have hLc:=S.lt
 have Q0:=C.pc.qa S.u (S:=[w.heap.size+1+1]) (by intro x hx;simp at hx;omega)
 go_wp2_with (first|(refine zab rfl 48 (.tmp 3) rfl (w.heap.size) 0 rfl 48 (PL p A n c) S.b0 48 _ Tryz.underlying48 zah (show 0+48≤48 by decide) (PA p A n c) (by rfl) rfl ?_)|fail)
 refine (k3.out _ S.u).mono ?_
 rintro e w4 ⟨A4,n4,c4,l4,SA,sm,sc,ls,mid,rfl,hq4,hn4,hW4,hs4,hls,hso,hmid,hrb,hmz,hb1⟩
 replace S:=S.later hb1
 replace HBT:=H9 (HBT.out.later hb1)
 have Q4:QAv w4 [w4.heap.size,w.heap.size+1+1] A4 l4:=(QAv.sub_of hW4 hs4 Q0 (by intro x hx;simp at hx;omega)).add (Nat.le_refl _)
 have HX4:=H9 (And.intro hq4 (And.intro hn4 hls))
 have HPB:=H9 (show ∀ a∈l4,0<a.w.m.pl.length→∀ b off,a.B=some ⟨b,off,none⟩→b<w.heap.size from fun a ha h0 b off e=>by
  obtain ⟨b',off',e',hlt,_⟩:=HPA.out.2 a (hs4.sub a ha) h0
  rw [e] at e'
  injection e' with e'
  injection e' with e1 _
  omega)
 have HRB:=H9 hrb
 have hs4z:=hb1.size
 have hbt:=HBT.out.lt
 clear hb1 k3 hq4 hn4 hls hW4 hs4 Q0 hrb HPA
 have BZ:Blk (w4.alloc (Obj.cells (PA Sb.Pt.zero none 0 0) 48)) w4.heap.size 48 (PL Sb.Pt.zero none 0 0).toArray:=Blk.new _ _ _
 go_upto_region 17 with (first|(refine zac rfl 48 (.tmp 20) (.tmp 119) rfl (w4.heap.size) 0 rfl 48 (PL Sb.Pt.zero none 0 0) BZ (PL q A4 n4 c4) rfl zah (show 0+48≤48 by decide) rfl (PL q A4 n4 c4) rfl ?_;intro W5 Bq OB)|fail)
 have hbb:=OB.below ((Below.refl _ w4).alloc (Nat.le_refl _) _) (by simp) (Nat.le_refl _)
 replace S:=S.later hbb
 replace Q4:=Q4.later hbb
 replace HBT:=H9 (HBT.out.later hbb)
 have hso0:=hso
 replace hso:=hso.below hbb
 have hb4:=hbb
 replace Bq:=H9 (show PB W5 w4.heap.size q A4 n4 c4 from Bq)
 obtain ⟨gq,hgq⟩:∃ g,g=w4.heap.size:=⟨_,rfl⟩
 have hgw4:w4.heap.size≤gq:=by omega
 rw [← hgq] at Bq Q4 hs4z hbt ⊢
 clear hgq OB BZ hbb
 clear hb4
 have hgq5:=Bq.out.lt
 have y3:=S.c3
 go_wp2_with (first|(refine zab rfl 46 (.tmp 122) rfl gq 40 rfl 48 (PL q A4 n4 c4) Bq.out 5 _ Tryz.underlying46 zcy (show 40+5≤48 by decide) (#[.bool q.hd.on, .int .u32 q.hd.time, .int .u8 q.hd.code, .int .i64 q.hd.len, .bool q.hd.ended]) (by rfl) rfl ?_)|(refine zab rfl 108 (.tmp 10) rfl gt 0 rfl 108 ([.int .u8 tcode, .bool tfin, .int .u8 tvol, .int .u16 tdur]) HBT.out 4 _ Tryz.underlying108 zpq (show 0+4≤4 by decide) (#[.int .u8 tcode, .bool tfin, .int .u8 tvol, .int .u16 tdur]) (by rfl) rfl ?_)|fail)
 refine (k4.out _).mono ?_
 rintro e w6 ⟨KA,kc,rfl,hkr,hb1⟩
 replace S:=S.later hb1
 replace Bq:=H9 (PB.later Bq.out hb1)
 replace Q4:=Q4.later hb1
 replace hso:=hso.below hb1
 have hs6:=hb1.size
 have HKR:=H9 hkr
 clear hb1 k4 y3 HBT hkr
 have BH:=H9 (Blk.new w6 46 #[.bool H.on, .int .u32 H.time, .int .u8 H.code, .int .i64 H.len, .bool H.ended])
 have hb2:Below w6.heap.size w6 (w6.alloc (.cells #[.bool H.on, .int .u32 H.time, .int .u8 H.code, .int .i64 H.len, .bool H.ended] 46)):=(Below.refl _ _).alloc (Nat.le_refl _) _
 replace S:=S.later hb2
 replace Bq:=H9 (PB.later Bq.out hb2)
 replace Q4:=Q4.later hb2
 replace hso:=hso.below hb2
 replace HKR:=H9 (HKR.out.later hb2)
 obtain ⟨gh,hgh⟩:∃ g,g=w6.heap.size:=⟨_,rfl⟩
 obtain ⟨W7,hW7⟩:∃ V,V=w6.alloc (.cells #[.bool H.on, .int .u32 H.time, .int .u8 H.code, .int .i64 H.len, .bool H.ended] 46):=⟨_,rfl⟩
 have hs7:w6.heap.size≤W7.heap.size:=by rw [hW7];exact hb2.size
 rw [← hgh,← hW7] at BH
 rw [← hgh] at hs6
 go_upto_region 18 with fail
 rw [← hgh]
 rw [← hW7] at S Bq Q4 hso HKR ⊢
 clear hW7 hb2
 go_upto_region 19 with (first|(refine zab rfl 46 (.tmp 22) rfl gh 0 rfl 46 ([.bool H.on, .int .u32 H.time, .int .u8 H.code, .int .i64 H.len, .bool H.ended]) BH.out 5 _ Tryz.underlying46 zcy (show 0+5≤5 by decide) (#[.bool H.on, .int .u32 H.time, .int .u8 H.code, .int .i64 H.len, .bool H.ended]) (by rfl) rfl ?_)|(refine zac rfl 46 (.tmp 131) (.tmp 130) rfl gq 40 rfl 48 (PL q A4 n4 c4) Bq.out ([.bool H.on, .int .u32 H.time, .int .u8 H.code, .int .i64 H.len, .bool H.ended]) rfl zcy (show 40+5≤48 by decide) rfl (PL { q with hd:=H } A4 n4 c4) rfl ?_;intro WG BG OG)|fail)
 have hLz:=S.lt
 have hso2:=SOwn.skip hso0 hso OG hgw4
 have HKR2:=H9 (show RowsNew W5.heap.size WG 4 Ev.Key.row KA ks from ⟨fun h0=>by
  obtain ⟨b,off,e,hlt,hc⟩:=HKR.out.1 h0
  have:=HKR.out.2 h0 b off e
  exact ⟨b,off,e,by rw [OG.2];exact hlt,fun i a ha j v hv=>(OG.cell (show b≠gq by omega)).trans (hc i a ha j v hv)⟩,HKR.out.2⟩)
 replace S:=S.far OG (by omega) (by omega) (by omega) (by omega)
 replace Q4:=Q4.chg (Chg.of_only OG (S:=[gq]) (by simp)) (by simp)
 have hWG2:gq<WG.heap.size:=by rw [OG.2];omega
 have hW52:W5.heap.size≤WG.heap.size:=by rw [OG.2];omega
 have hso0l:=fun g (e:ownB SA=some g)=>(hso0.own.block g e)
 obtain ⟨q2,hq2⟩:∃ q2:Sb.Pt,q2 = { q with hd:=H } := ⟨_,rfl⟩
 rw [← hq2] at BG
 have HQ2:=H9 hq2
 have BQ2:=H9 (show PB WG gq q2 A4 n4 c4 from BG)
 clear BG OG BH Bq hso HKR hq2 hgh
 by_cases hk0:ks=[]
 · subst hk0
   obtain rfl:more=[]:=by rw [HM.out,if_pos rfl]
   have hL0:¬(0:Int)<(([]:List Ev.Key).length:Int):=by simp
   have hLe:=S.lt
   go_wp2_with (first|(refine zab rfl 48 (.tmp 20) rfl (gq) 0 rfl 48 (PL q2 A4 n4 c4) BQ2.out 48 _ Tryz.underlying48 zah (show 0+48≤48 by decide) (PA q2 A4 n4 c4) (by rfl) rfl ?_)|(refine zac rfl 48 (.tmp 6) (.tmp 141) rfl (w.heap.size+1+1) 0 rfl 48 (PL Sb.Pt.zero none 0 0) S.b2 (PL q2 A4 n4 c4) rfl zah (show 0+48≤48 by decide) rfl (PL q2 A4 n4 c4) rfl ?_;intro WI BI OI)|fail)
   refine bodyPost_ret (v := .tuple #[.agg (PA q2 A4 n4 c4), .int .u8 1, .slice SA sm sc, .int .u8 0]) (zar Tryz.results12 rfl (PB.load BI) rfl rfl rfl) rfl ⟨A4,n4,c4,SA,sm,sc,ls.map TS.ty,by rw [HQ2.out],⟨l4,HX4.out.1,HX4.out.2.1,(Q4.chg (Chg.of_only OI (S:=[w.heap.size+1+1]) (by simp)) (by simp)).wts⟩,by rw [ty_s,HX4.out.2.2],by simpa using hso2.len,?_,OI.bel S.u (by omega)⟩
   exact ((hso2.only OI (by omega)).sks (HNK.out ls HX4.out.2.2)).less (Nat.zero_le _)
 obtain rfl:more=[⟨now,[],ks⟩]:=by rw [HM.out,if_neg hk0]
 have hL0:(0:Int)<(ks.length:Int):=by have:0<ks.length:=List.length_pos_iff.2 hk0;omega
 have hL1:0<ks.length:=List.length_pos_iff.2 hk0
 have hL2':¬ks.length=0:=by omega
 have hsm:sm≤100000:=by have h1:=hso2.len;have h2:=congrArg List.length HX4.out.2.2;have h3:=HSL.out;simp at h2;omega
 have h5:(sm+1)*56≤140737488355328:=by omega
 have h6:sm+1≤maxLen:=by unfold maxLen;omega
 have hAk:∀ g,ownB SA=some g→mid≤g:=fun g e=>(hso2.own.block g e).1
 have HX:=H9 hso2.own
 have hbs5:mid≤WG.heap.size:=by omega
 go_upto_region 21 with (at_builtin;go_loud (refine zaq (w0:=WG) rfl _ _ 54 rfl mid 86 3 56 _ Tryz.underlying54 zdo rfl (by decide) SA sm sc _ rfl HX.out [.int .i64 now, .slice none 0 0, .slice KA ks.length kc] rfl (by simp [Value.oneCell']) rfl h6 h5 hbs5 ?_);intro A9 c9 v1 qo hgr hat)
 have HSK:=H9 (hso2.add (a:=⟨⟨now,[],ks⟩,none,0,KA,kc⟩) (HNK.out ls HX4.out.2.2) hgr qo rfl HKR2.out (fun g e=>by have:=(hso0l g e).2;omega) (by omega))
 have hne:∀ g,g<mid→ownB SA≠some g:=fun g hg e=>by have:=hAk g e;omega
 have hne2:ownB SA≠some gq:=fun e=>by have:=(hso0l gq e).2;omega
 replace S:RS w v1 p A n c x:=⟨S.b0.grown hgr (fun e=>hne _ (by omega) e.symm),S.b1.grown hgr (fun e=>hne _ (by omega) e.symm),S.b2.grown hgr (fun e=>hne _ (by omega) e.symm),Below.grown S.u hgr S.u.size (fun g e=>by have:=hAk g e;omega)⟩
 replace BQ2:=H9 (show PB v1 gq q2 A4 n4 c4 from Blk.grown BQ2.out hgr (fun e=>hne2 e.symm))
 have Q5:QAv v1 [w.heap.size+1+1] A4 l4:=by
  refine ⟨⟨fun h0 => ?_,fun a ha h0 => ?_⟩,fun h0 b off e hb=>Q4.row h0 b off e (by simp at hb;simp [hb]),fun a ha h0 b off e hb=>Q4.pay a ha h0 b off e (by simp at hb;simp [hb])⟩
  · obtain ⟨b,off,e,hlt,hc⟩:=Q4.wts.1 h0
    have hb:=HRB.out h0 b off e
    exact ⟨b,off,e,Nat.lt_of_lt_of_le hlt hgr.size,fun i a ha j v hv=>hgr.cell (hc i a ha j v hv) (fun e2=>hne b hb e2.symm)⟩
  · obtain ⟨b,off,e,hlt,hc⟩:=Q4.wts.2 a ha h0
    have hb:=HPB.out a ha h0 b off e
    exact ⟨b,off,e,Nat.lt_of_lt_of_le hlt hgr.size,fun i hi=>hgr.cell (hc i hi) (fun e2=>hne b (by omega) e2.symm)⟩
 have hLe:=S.lt
 clear hgr qo hat HX Q4
 go_wp2_with (first|(refine zab rfl 48 (.tmp 20) rfl (gq) 0 rfl 48 (PL q2 A4 n4 c4) BQ2.out 48 _ Tryz.underlying48 zah (show 0+48≤48 by decide) (PA q2 A4 n4 c4) (by rfl) rfl ?_)|(refine zac rfl 48 (.tmp 6) (.tmp 141) rfl (w.heap.size+1+1) 0 rfl 48 (PL Sb.Pt.zero none 0 0) S.b2 (PL q2 A4 n4 c4) rfl zah (show 0+48≤48 by decide) rfl (PL q2 A4 n4 c4) rfl ?_;intro WI BI OI)|fail)
 refine bodyPost_ret (v := .tuple #[.agg (PA q2 A4 n4 c4), .int .u8 1, .slice A9 (sm+1) c9, .int .u8 0]) (zar Tryz.results12 rfl (PB.load BI) rfl rfl rfl) rfl ⟨A4,n4,c4,A9,sm+1,c9,ls.map TS.ty ++ [⟨⟨now,[],ks⟩,none,0,KA,kc⟩],by rw [HQ2.out],⟨l4,HX4.out.1,HX4.out.2.1,(Q5.chg (Chg.of_only OI (S:=[w.heap.size+1+1]) (by simp)) (by simp)).wts⟩,by rw [List.map_append,ty_s,HX4.out.2.2];rfl,by rw [List.length_append,List.length_map];show ls.length+1=sm+1;rw [hso2.len],(HSK.out.only OI (by omega)).less (Nat.zero_le _),OI.bel S.u (by omega)⟩
noncomputable def rv27_code:Code:=((Tryz.f12.body.bind (fromReg 27)).getD .skip)
theorem zus {w W:World} {p:Sb.Pt} {A:Option Addr} {l:List TW} {n c:Nat} {x:Rx} {now:Int} (C:VC w p A l n c x now) (S:RS w W p A n c x) {fn t:Int} (a:Act) (ha:Fr 199 [(1, .int .i64 now),(3, .pointer (some ⟨w.heap.size,0,none⟩)),(5, .pointer (some ⟨w.heap.size+1,0,none⟩)),(6, .pointer (some ⟨w.heap.size+1+1,0,none⟩)),(16, .int .i64 fn),(24, .int .i64 t)] a):firstWp Tryz.prog rv27_code (bodyPost Tryz.prog Tryz.f12 (RecvX ({ p with st:=Rep.arrive p.st fn (8*now) t,jt:=(Jb.put p.jt now ⟨fn,t,x.mrk,x.ty,x.pl⟩).1,seed:=(Sb.sounds p.seed (Jb.put p.jt now ⟨fn,t,x.mrk,x.ty,x.pl⟩).2.1).1 }, (Jb.put p.jt now ⟨fn,t,x.mrk,x.ty,x.pl⟩).2.2.1,(Sb.sounds p.seed (Jb.put p.jt now ⟨fn,t,x.mrk,x.ty,x.pl⟩).2.1).2,0) w)) a W:=by
 obtain ⟨s,rfl,e1,e3,e5,e6,e16,e24,_⟩:=ha
 rw [r199,e1,e3,e5,e6,e16,e24]
 clear e1 e3 e5 e6 e16 e24
 obtain ⟨T,hT⟩:∃ s,s=Rep.arrive p.st fn (8*now) t:=⟨_,rfl⟩
 have k2:=fun (W:World)=>zjx p.st.seen p.st.base p.st.high p.st.got p.st.wexp p.st.wrec p.st.trans p.st.jit W fn (8*now) t
 rw [show (⟨p.st.seen,p.st.base,p.st.high,p.st.got,p.st.wexp,p.st.wrec,p.st.trans,p.st.jit⟩:Rep.St)=p.st from rfl,← hT] at k2
 unfold Rep.St.row at k2
 replace k2:=H9 k2
 rw [← hT]
 clear hT
 have hm15:x.pl.length≤100000:=by have:=C.rc.h15;omega
 have k3:=H9 fun (W:World) (hW:Bel w W)=>zwp p.jt A l n c now ⟨fn,t,x.mrk,x.ty,x.pl⟩ x.B x.pl.length x.pc W C.pc.q C.pc.len C.pc.n5 C.pc.cap C.pc.cm (C.pc.av.later hW) (fun a h=>Nat.le_trans (C.pc.pay a h) (by decide)) rfl hm15 (C.rc.pl.later hW)
 unfold JPutB JV at k3
 have hput:(Jb.put p.jt now ⟨fn,t,x.mrk,x.ty,x.pl⟩).2.1.length≤100000∧∀ a∈(Jb.put p.jt now ⟨fn,t,x.mrk,x.ty,x.pl⟩).2.1,OkW a:=by
  have hql:p.jt.q.length≤100000:=by rw [← C.pc.q];simp;have:=C.pc.len;have:=C.pc.n5;omega
  unfold Jb.put
  split
  · exact ⟨Nat.le_trans (List.takeWhile_sublist _).length_le hql,zce C.rc.ok⟩
  · exact ⟨by simp,fun a ha=>by cases ha⟩
 generalize Jb.put p.jt now ⟨fn,t,x.mrk,x.ty,x.pl⟩=JP at *
 obtain ⟨J1,J2,J3,J4⟩:=JP
 dsimp only at k3 hput ⊢
 have HPT:=H9 hput
 clear hput hm15
 have HSD:=H9 C.pc.wf.seed
 have HPA:=H9 C.pc.av
 have h8n : -4611686018427387904≤8*now∧8*now≤4611686018427387904:=by have:=C.rc.n0;have:=C.rc.n1;omega
 obtain ⟨h81,h82⟩:=h8n
 have h83:IntKind.i64.wrap (8*now)=8*now:=IntWalk.i64_in _ (by omega)
 have HXP:=H9 C.rc.pl
 refine zau ?_
 intro _ _
 go_wp2_with (first|(refine zab rfl 44 (.tmp 162) rfl (w.heap.size) 32 rfl 48 (PL p A n c) S.b0 8 _ Tryz.underlying44 zbq (show 32+8≤48 by decide) (#[.bool p.st.seen, .int .i64 p.st.base, .int .i64 p.st.high, .int .i64 p.st.got, .int .i64 p.st.wexp, .int .i64 p.st.wrec, .int .i64 p.st.trans, .int .i64 p.st.jit]) (by rfl) rfl ?_)|fail)
 refine (k2.out _).mono ?_
 rintro e w1 ⟨rfl,hb1⟩
 replace S:=S.later hb1
 clear hb1 k2 h83
 go_upto_region 28 with (first|(refine zac rfl 44 (.tmp 169) (.tmp 168) rfl (w.heap.size) 32 rfl 48 (PL p A n c) S.b0 ([.bool T.seen, .int .i64 T.base, .int .i64 T.high, .int .i64 T.got, .int .i64 T.wexp, .int .i64 T.wrec, .int .i64 T.trans, .int .i64 T.jit]) rfl zbq (show 32+8≤48 by decide) rfl (PL { p with st:=T } A n c) rfl ?_;intro WG BG OG)|fail)
 replace S:=S.over OG BG
 clear BG OG
 have y0:=S.c0
 have y1:=S.c1
 have y9:=S.c9
 have hL:=S.lt
 have Q0:=C.pc.qa S.u (S:=[w.heap.size+1+1,w.heap.size]) (by intro x hx;simp at hx;omega)
 have QX:IntsAv WG [w.heap.size+1+1,w.heap.size] .u8 x.B x.pl:=IntsAv.of_at (C.rc.pl.keep (fun _ hp=>S.u.cell hp)) S.u.size (by intro x hx;simp at hx;omega)
 go_wp2_with (first|(refine zab rfl 40 (.tmp 171) rfl (w.heap.size) 14 rfl 48 (PL { p with st:=T } A n c) S.b0 14 _ Tryz.underlying40 zaw (show 14+14≤48 by decide) (#[.int .i64 p.jt.least, .int .i64 p.jt.most, .int .i64 p.jt.now, .bool p.jt.on, .int .i64 p.jt.zero, .int .i64 p.jt.first, .int .i64 p.jt.high, .int .i64 p.jt.done, .int .i64 p.jt.spread, .int .i64 p.jt.trans, .slice A n c, .int .i64 p.jt.late, .int .i64 p.jt.twice, .int .i64 p.jt.played]) (by rfl) rfl ?_)|fail)
 refine (k3.out _ S.u).mono ?_
 rintro e w2 ⟨A1,c1,l1,A2,c2,l2,rfl,hm1,hm2,hW1,hW2,_,_,hb1,hs1,hr2,hp2⟩
 have Q1:QAv w2 [w.heap.size+1+1,w.heap.size] A1 l1:=QAv.sub_of hW1 hs1 Q0 (by intro x hx;simp at hx;omega)
 have Q2:QAv w2 [w.heap.size+1+1,w.heap.size] A2 l2:=⟨hW2,fun h0 b off e hb=>by have:=hr2 h0 b off e;simp at hb;omega,fun a ha h0 b off e hb=>by
  rcases hp2 a ha with h|⟨h,h'⟩
  · exact Q0.pay a h h0 b off e hb
  · exact QX.2 (by rw [← h'];exact h0) b off (by rw [← h];exact e) hb⟩
 replace S:=S.later hb1
 have HM1:=H9 hm1
 have HM2:=H9 hm2
 have hLt2:=S.lt
 clear hb1 k3 hm1 hm2 hW1 hW2 hs1 hr2 hp2 Q0 QX y0 y1 y9 HXP HPA
 have BJ:=H9 (Blk.new w2 40 (JW J1 A2 l2.length c2).toArray)
 have hbj:Below w2.heap.size w2 (w2.alloc (.cells (JW J1 A2 l2.length c2).toArray 40)):=(Below.refl _ _).alloc (Nat.le_refl _) _
 replace S:=S.later hbj
 replace Q1:=Q1.later hbj
 replace Q2:=Q2.later hbj
 obtain ⟨gj,hgj⟩:∃ g,g=w2.heap.size:=⟨_,rfl⟩
 obtain ⟨W3,hW3⟩:∃ V,V=w2.alloc (.cells (JW J1 A2 l2.length c2).toArray 40):=⟨_,rfl⟩
 rw [← hgj,← hW3] at BJ
 rw [← hgj] at hLt2
 go_upto_region 29 with fail
 rw [← hgj]
 change Code.wp _ _ _ _ (w2.alloc (.cells (JW J1 A2 l2.length c2).toArray 40))
 rw [← hW3] at S Q1 Q2 ⊢
 clear hW3 hgj hbj
 go_upto_region 30 with (first|(refine zab rfl 40 (.tmp 25) rfl (gj) 0 rfl 40 (JW J1 A2 l2.length c2) BJ.out 14 _ Tryz.underlying40 zaw (show 0+14≤14 by decide) ((JW J1 A2 l2.length c2).toArray) (by rfl) rfl ?_)|(refine zac rfl 40 (.tmp 189) (.tmp 188) rfl (w.heap.size) 14 rfl 48 (PL { p with st:=T } A n c) S.b0 (JW J1 A2 l2.length c2) rfl zaw (show 14+14≤48 by decide) rfl (PL { p with st:=T,jt:=J1 } A2 l2.length c2) rfl ?_;intro WJ BJ2 OJ)|fail)
 replace S:=S.over OJ BJ2
 replace Q1:=Q1.chg (Chg.of_only OJ (S:=[w.heap.size]) (by simp)) (by simp)
 replace Q2:=Q2.chg (Chg.of_only OJ (S:=[w.heap.size]) (by simp)) (by simp)
 clear BJ2 OJ BJ
 have hLg:=S.lt
 have k4:=H9 (zfi { p with st:=T,jt:=J1 } HSD.out.1 HSD.out.2 A2 l2.length c2 (PA { p with st:=T,jt:=J1 } A2 l2.length c2) rfl A1 l1 l1.length c1 WJ rfl (by have h:=congrArg List.length HM1.out;simp at h;have:=HPT.out.1;omega) Q1.wts (zpp HM1.out HPT.out.2))
 unfold RPlayedR at k4
 rw [HM1.out] at k4
 go_wp2_with (first|(refine zab rfl 48 (.tmp 3) rfl (w.heap.size) 0 rfl 48 (PL { p with st:=T,jt:=J1 } A2 l2.length c2) S.b0 48 _ Tryz.underlying48 zah (show 0+48≤48 by decide) (PA { p with st:=T,jt:=J1 } A2 l2.length c2) (by rfl) rfl ?_)|fail)
 refine k4.out.mono ?_
 rintro e w4 ⟨SA,sc,ls,rfl,hls,hso,hb1⟩
 replace S:=S.later hb1
 replace Q2:=Q2.later hb1
 have HLS:=H9 hls
 have HNK:=H9 (zgg hls)
 clear hb1 k4 Q1 hls
 obtain ⟨q,hq⟩:∃ q:Sb.Pt,q = { p with st:=T,jt:=J1,seed:=(Sb.sounds p.seed J2).1 } := ⟨_,rfl⟩
 rw [← hq]
 have HQQ:=H9 hq
 clear hq
 go_upto_region 31 with (first|(refine zac rfl 48 (.tmp 3) (.tmp 194) rfl (w.heap.size) 0 rfl 48 (PL { p with st:=T,jt:=J1 } A2 l2.length c2) S.b0 (PL q A2 l2.length c2) rfl zah (show 0+48≤48 by decide) rfl (PL q A2 l2.length c2) rfl ?_;intro WK BK OK)|fail)
 replace S:=S.over OK BK
 replace Q2:=Q2.chg (Chg.of_only OK (S:=[w.heap.size]) (by simp)) (by simp)
 replace hso:=hso.only OK (by omega)
 clear BK OK
 have hLe:=S.lt
 go_wp2_with (first|(refine zab rfl 48 (.tmp 3) rfl (w.heap.size) 0 rfl 48 (PL q A2 l2.length c2) S.b0 48 _ Tryz.underlying48 zah (show 0+48≤48 by decide) (PA q A2 l2.length c2) (by rfl) rfl ?_)|(refine zac rfl 48 (.tmp 6) (.tmp 196) rfl (w.heap.size+1+1) 0 rfl 48 (PL Sb.Pt.zero none 0 0) S.b2 (PL q A2 l2.length c2) rfl zah (show 0+48≤48 by decide) rfl (PL q A2 l2.length c2) rfl ?_;intro WH BH OH)|fail)
 refine bodyPost_ret (v := .tuple #[.agg (PA q A2 l2.length c2), .int .u8 J3, .slice SA l1.length sc, .int .u8 0]) (zar Tryz.results12 rfl (PB.load BH) rfl rfl rfl) rfl ⟨A2,l2.length,c2,SA,l1.length,sc,ls.map TS.ty,by rw [HQQ.out],⟨l2,HM2.out,rfl,(Q2.chg (Chg.of_only OH (S:=[w.heap.size+1+1]) (by simp)) (by simp)).wts⟩,by rw [ty_s];exact HLS.out,by simpa using hso.len,?_,OH.bel S.u (by omega)⟩
 exact ((hso.only OH (by omega)).sks HNK.out).less (Nat.zero_le _)
theorem zsc {w W:World} {p:Sb.Pt} {A:Option Addr} {l:List TW} {n c:Nat} {x:Rx} {now:Int} (C:VC w p A l n c x now) (S:RS w W p A n c x) {gt:Nat} {on:Bool} {fn:Int} (hty:¬x.ty=101) (hnr : -140737488355328≤p.ht∧p.ht≤140737488355328) (a:Act) (ha:Fr 199 [(1, .int .i64 now),(3, .pointer (some ⟨w.heap.size,0,none⟩)),(5, .pointer (some ⟨w.heap.size+1,0,none⟩)),(6, .pointer (some ⟨w.heap.size+1+1,0,none⟩)),(10, .pointer (some ⟨gt,0,none⟩)),(14, .bool (!on)),(16, .int .i64 fn)] a):firstWp Tryz.prog rv15_code (bodyPost Tryz.prog Tryz.f12 (RecvX ({ p with ht:=if on=false∨p.ht<(if on=true then Pk.near p.ht x.ti 4294967296 else x.ti) then (if on=true then Pk.near p.ht x.ti 4294967296 else x.ti) else p.ht,st:=Rep.arrive p.st fn (8*now) (if on=true then Pk.near p.ht x.ti 4294967296 else x.ti),jt:=(Jb.put p.jt now ⟨fn,(if on=true then Pk.near p.ht x.ti 4294967296 else x.ti),x.mrk,x.ty,x.pl⟩).1,seed:=(Sb.sounds p.seed (Jb.put p.jt now ⟨fn,(if on=true then Pk.near p.ht x.ti 4294967296 else x.ti),x.mrk,x.ty,x.pl⟩).2.1).1 }, (Jb.put p.jt now ⟨fn,(if on=true then Pk.near p.ht x.ti 4294967296 else x.ti),x.mrk,x.ty,x.pl⟩).2.2.1,(Sb.sounds p.seed (Jb.put p.jt now ⟨fn,(if on=true then Pk.near p.ht x.ti 4294967296 else x.ti),x.mrk,x.ty,x.pl⟩).2.1).2,0) w)) a W:=by
 obtain ⟨s,rfl,e1,e3,e5,e6,e10,e14,e16,_⟩:=ha
 rw [r199,e1,e3,e5,e6,e10,e14,e16]
 clear e1 e3 e5 e6 e10 e14 e16
 have k1:=H9 fun (W:World)=>zga p.ht x.ti W C.rc.t0 C.rc.t1 (by omega) (by omega)
 obtain ⟨t,ht⟩:∃ t,t=(if on=true then Pk.near p.ht x.ti 4294967296 else x.ti):=⟨_,rfl⟩
 rw [← ht]
 have HT:=H9 ht
 clear ht
 obtain ⟨z,hz⟩:∃ z,z=(if on=false∨p.ht<t then t else p.ht):=⟨_,rfl⟩
 rw [← hz]
 have HZ:=H9 hz
 have CZ:VC w { p with ht:=z } A l n c x now:=⟨C.pc.same ⟨C.pc.wf.codec,C.pc.wf.src,C.pc.wf.seq,C.pc.wf.time,C.pc.wf.below,C.pc.wf.tvol,C.pc.wf.tcode,C.pc.wf.tst,C.pc.wf.seed,C.pc.wf.pk,C.pc.wf.oc⟩ rfl,C.rc.with rfl rfl,C.zb,C.l0,C.l1,C.h0,C.h1⟩
 have HN:=H9 fun (W:World) S (a:Act) ha=>zus (p := { p with ht:=z }) (fn:=fn) (t:=t) (W:=W) CZ S a ha
 have n101:(x.ty==101)=false:=by simpa using hty
 clear hz CZ hnr
 have ht0:=C.rc.t0
 have ht1:=C.rc.t1
 refine zay ?_
 intro _ _ _ _
 have y1:=S.c1
 go_upto_region 22 with fail
 clear y1 n101 hty
 have y3:=S.c3
 have x31:=S.cell 31 _ rfl
 cases on
 · obtain rfl:t=x.ti:=by rw [HT.out];rfl
   obtain rfl:z=x.ti:=by rw [HZ.out,if_pos (.inl rfl)]
   have z31:=Blk.frozen S.b0 31
   go_upto_region 27 with fail
   obtain ⟨WZ,hV⟩:∃ V,V=W.setCell ⟨w.heap.size,31,none⟩ (.int .i64 x.ti):=⟨_,rfl⟩
   rw [← hV]
   replace S:RS w WZ { p with ht:=x.ti } A n c x:=by rw [hV];exact S.set 31 _ rfl
   clear hV
   refine zas (by assumption) ?_
   exact HN.out _ S _ (Fr.mk rfl ⟨rfl,rfl,rfl,rfl,rfl,rfl,trivial⟩)
 obtain rfl:t=Pk.near p.ht x.ti 4294967296:=by rw [HT.out,if_pos rfl]
 generalize Pk.near p.ht x.ti 4294967296=t at *
 go_upto_region 24 with fail
 go_wp2_with fail
 refine (k1.out _).mono ?_
 rintro e w2 ⟨rfl,rfl⟩
 clear k1 y3
 by_cases hg:p.ht<t
 · obtain rfl:z=t:=by rw [HZ.out,if_pos (.inr hg)]
   have z31:=Blk.frozen S.b0 31
   go_upto_region 27 with fail
   obtain ⟨WZ,hV⟩:∃ V,V=W.setCell ⟨w.heap.size,31,none⟩ (.int .i64 z):=⟨_,rfl⟩
   rw [← hV]
   replace S:RS w WZ { p with ht:=z } A n c x:=by rw [hV];exact S.set 31 _ rfl
   clear hV
   refine zas (by assumption) ?_
   exact HN.out _ S _ (Fr.mk rfl ⟨rfl,rfl,rfl,rfl,rfl,rfl,trivial⟩)
 · obtain rfl:z=p.ht:=by rw [HZ.out,if_neg (by rintro (h|h);cases h;exact hg h)]
   go_upto_region 27 with fail
   refine zas (by assumption) ?_
   exact HN.out _ S _ (Fr.mk rfl ⟨rfl,rfl,rfl,rfl,rfl,rfl,trivial⟩)
end Go.Proofs.YtahbecinkciahaaGreat
namespace Go.Proofs.YtahbecinkciahaaGreat
open Go.RowKit
theorem zni (p:Sb.Pt) (now:Int) (x:Sb.Arr) (hk:Sb.known x=true) (hok:(Pk.follow p.tk x.sq).2.2=true) (h:x.ty=101):Sb.recv0 p now x=({ (Sb.run { p with tk:=(Pk.follow p.tk x.sq).1 } now).1 with hd:=(Ev.hear p.hd x.ti (Ev.decT x.pl).1).1 }, 1,(Sb.run { p with tk:=(Pk.follow p.tk x.sq).1 } now).2++(if (Ev.hear p.hd x.ti (Ev.decT x.pl).1).2=[] then [] else [⟨now,[],(Ev.hear p.hd x.ti (Ev.decT x.pl).1).2⟩])):=by
 unfold Sb.recv0
 rw [if_neg (by rw [hk];decide)]
 dsimp only
 rw [if_neg (by rw [hok];decide),if_pos h]
theorem zpr (p:Sb.Pt) (now:Int) (x:Sb.Arr) (hk:Sb.known x=true) (hok:(Pk.follow p.tk x.sq).2.2=true) (h:¬x.ty=101):Sb.recv0 p now x=({ p with tk:=(Pk.follow p.tk x.sq).1,ht:=if p.tk.on=false∨p.ht<(if p.tk.on=true then Pk.near p.ht x.ti 4294967296 else x.ti) then (if p.tk.on=true then Pk.near p.ht x.ti 4294967296 else x.ti) else p.ht,st:=Rep.arrive p.st (Pk.follow p.tk x.sq).2.1 (8*now) (if p.tk.on=true then Pk.near p.ht x.ti 4294967296 else x.ti),jt:=(Jb.put p.jt now ⟨(Pk.follow p.tk x.sq).2.1,(if p.tk.on=true then Pk.near p.ht x.ti 4294967296 else x.ti),x.mrk,x.ty,x.pl⟩).1,seed:=(Sb.sounds p.seed (Jb.put p.jt now ⟨(Pk.follow p.tk x.sq).2.1,(if p.tk.on=true then Pk.near p.ht x.ti 4294967296 else x.ti),x.mrk,x.ty,x.pl⟩).2.1).1 }, (Jb.put p.jt now ⟨(Pk.follow p.tk x.sq).2.1,(if p.tk.on=true then Pk.near p.ht x.ti 4294967296 else x.ti),x.mrk,x.ty,x.pl⟩).2.2.1,(Sb.sounds p.seed (Jb.put p.jt now ⟨(Pk.follow p.tk x.sq).2.1,(if p.tk.on=true then Pk.near p.ht x.ti 4294967296 else x.ti),x.mrk,x.ty,x.pl⟩).2.1).2):=by
 unfold Sb.recv0
 rw [if_neg (by rw [hk];decide)]
 dsimp only
 rw [if_neg (by rw [hok];decide),if_neg h]
 rfl
theorem VC.tk {w:World} {p:Sb.Pt} {A:Option Addr} {l:List TW} {n c:Nat} {x:Rx} {now:Int} (C:VC w p A l n c x now) (t:Pk.Tr):VC w { p with tk:=t } A l n c x now:=⟨C.pc.same ⟨C.pc.wf.codec,C.pc.wf.src,C.pc.wf.seq,C.pc.wf.time,C.pc.wf.below,C.pc.wf.tvol,C.pc.wf.tcode,C.pc.wf.tst,C.pc.wf.seed,C.pc.wf.pk,C.pc.wf.oc⟩ rfl,C.rc.with rfl rfl,C.zb,C.l0,C.l1,C.h0,C.h1⟩
structure XC (w:World) (p:Sb.Pt) (A:Option Addr) (l:List TW) (n c:Nat) (x:Rx):Prop where
 pc:PC w p A l n c
 ok:∀ a∈p.jt.q,OkW a
 ty0:0≤x.ty
 ty1:x.ty≤255
 q0:0≤x.sq
 q1:x.sq≤65535
 t0:0≤x.ti
 t1:x.ti≤4294967295
 pl:IntsAt w w.heap.size .u8 x.B x.pl
 zb:Within 0 255 x.pl
 l0 : -9223372036854775808≤p.hd.len
 l1:p.hd.len≤9223372036854775807
 h0:0≤p.hd.time
 h1:p.hd.time≤4294967295
theorem zlz {p:Sb.Pt} {now:Int} (h:Sb.chkT p now=0):p.valid=true∧¬now<p.jt.now∧now≤281474976710656 ∧ -281474976710656≤now:=by
 unfold Sb.chkT at h
 by_cases h1:p.valid=false∨281474976710656<now
 · rw [if_pos h1] at h;cases h
 rw [if_neg h1] at h
 by_cases h2:now<p.jt.now
 · rw [if_pos h2] at h;cases h
 have hv:p.valid=true:=by
  cases hv:p.valid with
  | true=>rfl
  | false=>exact absurd (Or.inl hv) h1
 have hj:Jb.valid p.jt=true:=by unfold Sb.Pt.valid at hv;simp only [Bool.and_eq_true] at hv;exact hv.1.1.2
 have hok:p.jt.ok:=by unfold Jb.valid at hj;simpa using hj
 have h3:¬281474976710656<now:=fun h=>h1 (.inr h)
 refine ⟨hv,h2,by omega,?_⟩
 have:=hok.1.1.1
 omega
theorem XC.vc {w:World} {p:Sb.Pt} {A:Option Addr} {l:List TW} {n c:Nat} {x:Rx} {now:Int} (C:XC w p A l n c x) (hc:Sb.chkT p now=0) (hl:¬1500<x.pl.length):VC w p A l n c x now:=by
 obtain ⟨h1,h2,h3,h4⟩:=zlz hc
 exact ⟨C.pc,⟨C.pc.q,C.pc.len,C.pc.n5,C.pc.cap,C.pc.cm,C.pc.av,C.pc.sq,C.ok,C.pc.wf.seed.1,C.pc.wf.seed.2,C.ty0,C.ty1,C.q0,C.q1,C.t0,C.t1,by omega,C.pl,h4,h3⟩,C.zb,C.l0,C.l1,C.h0,C.h1⟩
theorem zjy {w:World} {p:Sb.Pt} {A:Option Addr} {l:List TW} {n c:Nat} {x:Rx} (C:XC w p A l n c x) (now:Int):Calls Tryz.prog 11 #[.agg (PA p A n c), .int .i64 now, .agg x.row] w (RecvX (Sb.recv p now x.arr) w):=by
 unfold Sb.recv
 by_cases h1:Sb.chkT p now=2∨1500<x.arr.pl.length
 · rw [if_pos h1]
   exact zfq C.pc rfl 2 (.inl ⟨rfl,h1⟩)
 have hl:¬1500<x.pl.length:=fun h=>h1 (.inr h)
 rw [if_neg h1]
 by_cases h2:Sb.chkT p now=9
 · rw [if_pos h2]
   exact zfq C.pc rfl 9 (.inr ⟨rfl,h2,hl⟩)
 rw [if_neg h2]
 have hc:Sb.chkT p now=0:=by
  have h3:¬Sb.chkT p now=2:=fun h=>h1 (.inl h)
  unfold Sb.chkT at h2 h3 ⊢
  split at h2
  · rename_i h;rw [if_pos h] at h3;exact absurd rfl h3
  · rename_i h
    rw [if_neg h] at h3 ⊢
    split at h2
    · exact absurd rfl h2
    · rename_i h4;rw [if_neg h4]
 have V:=C.vc hc hl
 exact (znf V.rc C.pc.wf rfl hc C.zb C.l0 C.l1).mono fun e w' h=>RecvX.of h
theorem zis {w:World} {p:Sb.Pt} {A:Option Addr} {l:List TW} {n c:Nat} {x:Rx} (C:XC w p A l n c x) (now:Int):Calls Tryz.prog 12 #[.agg (PA p A n c), .int .i64 now, .agg x.row] w (RecvX (Sb.recv p now x.arr) w):=by
 unfold Sb.recv
 by_cases h1:Sb.chkT p now=2∨1500<x.arr.pl.length
 · rw [if_pos h1]
   exact zer C.pc rfl 2 (.inl ⟨rfl,h1⟩)
 have hl:¬1500<x.pl.length:=fun h=>h1 (.inr h)
 rw [if_neg h1]
 by_cases h2:Sb.chkT p now=9
 · rw [if_pos h2]
   exact zer C.pc rfl 9 (.inr ⟨rfl,h2,hl⟩)
 rw [if_neg h2]
 have hc:Sb.chkT p now=0:=by
  have h3:¬Sb.chkT p now=2:=fun h=>h1 (.inl h)
  unfold Sb.chkT at h2 h3 ⊢
  split at h2
  · rename_i h;rw [if_pos h] at h3;exact absurd rfl h3
  · rename_i h
    rw [if_neg h] at h3 ⊢
    split at h2
    · exact absurd rfl h2
    · rename_i h4;rw [if_neg h4]
 have V:=C.vc hc hl
 obtain ⟨hv,hn,_,_⟩:=zlz hc
 have hnr:p.near:=by unfold Sb.Pt.valid at hv;simp only [Bool.and_eq_true,decide_eq_true_eq] at hv;exact hv.2
 refine zqn V rfl hv hn fun W a S ha=>zwk V S a ha fun hk W gt a S BT hgt ha=>zwl V S BT hgt hk hnr a ha fun hok W a S BT ha => ?_
 by_cases hty:x.ty=101
 · have h:=zsb (V.tk (Pk.follow p.tk x.sq).1) S BT hgt hty a ha
   rw [zni p now x.arr hk hok hty]
   exact h
 · have h:=zsc (V.tk (Pk.follow p.tk x.sq).1) S hty ⟨hnr.2.2.2.2.1,hnr.2.2.2.2.2⟩ a ha
   rw [zpr p now x.arr hk hok hty]
   exact h
theorem XC.at {w W:World} {p:Sb.Pt} {A:Option Addr} {l:List TW} {n c:Nat} {x:Rx} (h:XC w p A l n c x) (u:Bel w W):XC W p A l n c x:=⟨h.pc.later u,h.ok,h.ty0,h.ty1,h.q0,h.q1,h.t0,h.t1,h.pl.later u,h.zb,h.l0,h.l1,h.h0,h.h1⟩
structure LV (w W:World) (p:Sb.Pt) (A:Option Addr) (n c:Nat) (x:Rx):Prop where
 b0:PB W w.heap.size p A n c
 bx:Blk W (w.heap.size+1) 51 x.row
 u:Bel w W
section
variable {w W W':World} {p:Sb.Pt} {A:Option Addr} {n c:Nat} {x:Rx}
theorem LV.new (w:World) (X:Array Value) (hX:X=PA p A n c) (x:Rx):LV w ((w.alloc (.cells X 48)).alloc (.cells x.row 51)) p A n c x:=⟨(PB.new w X hX).push _,Blk.new1 _ _ _ _,((Bel.refl w).push _).push _⟩
theorem LV.later (h:LV w W p A n c x) (hb:Below W.heap.size W W'):LV w W' p A n c x:=⟨h.b0.later hb,h.bx.later hb,h.u.later hb⟩
theorem LV.lt (h:LV w W p A n c x):w.heap.size+1<W.heap.size:=Blk.lt h.bx
end
theorem zma:(Tryz.prog.info? 51).map (·.size)=some 11:=by kernel_rfl
noncomputable def rl3_code:Code:=((Tryz.f4.body.bind (fromReg 3)).getD .skip)
noncomputable def rl7_code:Code:=((Tryz.f4.body.bind (fromReg 7)).getD .skip)
noncomputable def rl11_code:Code:=((Tryz.f4.body.bind (fromReg 11)).getD .skip)
theorem r144 (s:Nat→Value):((List.range 144).map s).toArray = #[s 0,s 1,s 2,s 3,s 4,s 5,s 6,s 7,s 8,s 9,s 10,s 11,s 12,s 13,s 14,s 15,s 16,s 17,s 18,s 19,s 20,s 21,s 22,s 23,s 24,s 25,s 26,s 27,s 28,s 29,s 30,s 31,s 32,s 33,s 34,s 35,s 36,s 37,s 38,s 39,s 40,s 41,s 42,s 43,s 44,s 45,s 46,s 47,s 48,s 49,s 50,s 51,s 52,s 53,s 54,s 55,s 56,s 57,s 58,s 59,s 60,s 61,s 62,s 63,s 64,s 65,s 66,s 67,s 68,s 69,s 70,s 71,s 72,s 73,s 74,s 75,s 76,s 77,s 78,s 79,s 80,s 81,s 82,s 83,s 84,s 85,s 86,s 87,s 88,s 89,s 90,s 91,s 92,s 93,s 94,s 95,s 96,s 97,s 98,s 99,s 100,s 101,s 102,s 103,s 104,s 105,s 106,s 107,s 108,s 109,s 110,s 111,s 112,s 113,s 114,s 115,s 116,s 117,s 118,s 119,s 120,s 121,s 122,s 123,s 124,s 125,s 126,s 127,s 128,s 129,s 130,s 131,s 132,s 133,s 134,s 135,s 136,s 137,s 138,s 139,s 140,s 141,s 142,s 143]:=rfl
end Go.Proofs.YtahbecinkciahaaGreat
namespace Go.Proofs.YtahbecinkciahaaGreat
attribute [local go_sem ↓] zae zaf
attribute [local go_sem] zad zag
open Go.RowKit
theorem zps {w:World} {p:Sb.Pt} {A:Option Addr} {l:List TW} {n c:Nat} {x:Rx} {now so la de:Int} {X:Array Value} (hX:X=PA p A n c) (wf:p.wf) (hq:l.map TW.w=p.jt.q) (hn:l.length=n) (hcap:n≤c) (hcm:c≤maxLen) (hA:Wts w w.heap.size A l) (hK:∀ a∈l,I64 a.w.m.sq) (hT:∀ a∈l,(0≤a.w.m.ty∧a.w.m.ty≤255)∧∀ z∈a.w.m.pl,0≤z∧z≤255)
 (hx:(0≤x.ty∧x.ty≤255)∧(0≤x.sq∧x.sq≤65535)∧(0≤x.ti∧x.ti≤4294967295)∧IntsAt w w.heap.size .u8 x.B x.pl∧Within 0 255 x.pl) (hh:(-9223372036854775808≤p.hd.len∧p.hd.len≤9223372036854775807)∧(0≤p.hd.time∧p.hd.time≤4294967295))
 (h:∀ (W:World) (a:Act),XC w p A l n c x→LV w W p A n c x→Fr 144 [(1, .int .i64 now),(3, .int .u32 so),(4, .int .u32 la),(5, .int .u32 de),(6, .pointer (some ⟨w.heap.size,0,none⟩)),(8, .pointer (some ⟨w.heap.size+1,0,none⟩))] a→firstWp Tryz.prog rl3_code (bodyPost Tryz.prog Tryz.f4 (fun e w'=>e = .returned (.bool true)∧Below w.heap.size w w')) a W):Calls Tryz.prog 4 #[.agg X, .int .i64 now, .agg x.row, .int .u32 so, .int .u32 la, .int .u32 de] w (fun e w'=>e = .returned (.bool true)∧Below w.heap.size w w'):=by
 have S:=LV.new w X hX x
 obtain ⟨v,hv⟩:∃ v,v=decide (l.length≤220∧∀ a∈l,a.w.m.pl.length≤2000):=⟨_,rfl⟩
 have k1:=H9 fun (W:World) hW=>zry p A l n c (PA p A n c) rfl W hn hW v hv
 have k2:=H9 fun W=>zjc W
 have HC:=H9 (show v=true→XC w p A l n c x from fun e=>by
  rw [e] at hv
  obtain ⟨h1,h2⟩:=of_decide_eq_true hv.symm
  refine ⟨⟨wf,hq,hn,by omega,hcap,hcm,hA,hK,fun a ha=>Nat.le_trans (h2 a ha) (by decide)⟩,fun y hy => ?_,hx.1.1,hx.1.2,hx.2.1.1,hx.2.1.2,hx.2.2.1.1,hx.2.2.1.2,hx.2.2.2.1,hx.2.2.2.2,hh.1.1,hh.1.2,hh.2.1,hh.2.2⟩
  rw [← hq] at hy
  obtain ⟨a,ha,rfl⟩:=List.mem_map.1 hy
  exact ⟨(hT a ha).1.1,(hT a ha).1.2,(hT a ha).2,Nat.le_trans (h2 a ha) (by decide)⟩)
 have HA:=H9 hA
 have hzs0:(0:Int)≤(x.pl.length:Int):=by omega
 clear hX hv wf hq hn hcap hcm hA hK hT hx hh
 go_enter Tryz.func4,Tryz.ntmps4
 go_upto_region 1 with fail
 change Code.wp _ _ _ _ ((w.alloc (Obj.cells X 48)).alloc (Obj.cells x.row 51))
 obtain ⟨W,hW⟩:∃ W,W=(w.alloc (Obj.cells X 48)).alloc (Obj.cells x.row 51):=⟨_,rfl⟩
 rw [← hW] at S ⊢
 clear hW
 go_wp2_with (first|(refine zab rfl 48 (.tmp 6) rfl (w.heap.size) 0 rfl 48 (PL p A n c) S.b0 48 _ Tryz.underlying48 zah (show 0+48≤48 by decide) (PA p A n c) (by rfl) rfl ?_)|fail)
 refine (k1.out _ (HA.out.later S.u)).mono ?_
 rintro e w1 ⟨rfl,hb1⟩
 replace S:=S.later hb1
 clear hb1 k1
 have y9:w1.cell? ⟨w.heap.size+1,9,none⟩=some (.slice x.B x.pl.length x.pc):=S.bx.at 9 _ rfl
 cases v
 · go_wp2_with fail
   refine (k2.out _).mono ?_
   rintro e w2 ⟨rfl,hb1⟩
   replace S:=S.later hb1
   clear hb1
   go_wp2_with fail
   go_ret
   exact ⟨rfl,S.u⟩
 by_cases h4:2000<(x.pl.length:Int)
 · go_wp2_with fail
   refine (k2.out _).mono ?_
   rintro e w2 ⟨rfl,hb1⟩
   replace S:=S.later hb1
   clear hb1
   go_wp2_with fail
   go_ret
   exact ⟨rfl,S.u⟩
 replace h4:(x.pl.length:Int)≤2000:=by omega
 go_upto_region 3 with fail
 refine zas (by assumption) ?_
 exact h _ _ (by first|exact HC.out rfl|exact HC.out trivial) S (Fr.mk rfl ⟨rfl,rfl,rfl,rfl,rfl,rfl,trivial⟩)
theorem zsd (A B:Option Addr) (ks:List Ev.Key) (c d:Nat) (w:World) (hk:ks.length≤140737488355328) (hA:RowsAt w w.heap.size 4 Ev.Key.row A ks) (hB:RowsAt w w.heap.size 4 Ev.Key.row B ks):Calls Tryz.prog 57 #[.slice A ks.length c, .slice B ks.length d] w fun e w'=>e = .returned (.bool true)∧Below w.heap.size w w':=by
 have HA:=H9 hA
 have HB:=H9 hB
 clear hA hB
 go_enter Tryz.func57,Tryz.ntmps57
 go_wp2
 go_loopg [5] ks.length (fun gk i wr => ∃ k:Nat,gk+k=ks.length∧i = .int .i64 k∧Hid (Below w.heap.size w wr))
 case atStart=>exact ⟨0,rfl,rfl,H9 (Below.refl _ _)⟩
 case round =>
  obtain ⟨k,hgk,rfl,U⟩:=hrel
  have hi0:(0:Int)≤(k:Int):=by omega
  by_cases hk2:k<ks.length
  rotate_left
  · obtain rfl:k=ks.length:=by omega
    have hi1:(ks.length:Int)≤(ks.length:Int):=Int.le_refl _
    go_wp2
    go_ret
    exact ⟨rfl,U.out⟩
  have hi1:(k:Int)<(ks.length:Int):=by omega
  obtain ⟨a,ha⟩:∃ a,ks[k]? = some a:=⟨_,List.getElem?_eq_getElem hk2⟩
  obtain ⟨b1,o1,rfl,hb1,hc1⟩:=HA.out (by omega)
  obtain ⟨b2,o2,rfl,hb2,hc2⟩:=HB.out (by omega)
  have x0:=(U.out.cell (p:=⟨b1,o1+k*4+0,none⟩) hb1).trans (hc1 k a ha 0 _ rfl)
  have x1:=(U.out.cell (p:=⟨b1,o1+k*4+1,none⟩) hb1).trans (hc1 k a ha 1 _ rfl)
  have x2:=(U.out.cell (p:=⟨b1,o1+k*4+2,none⟩) hb1).trans (hc1 k a ha 2 _ rfl)
  have x3:=(U.out.cell (p:=⟨b1,o1+k*4+3,none⟩) hb1).trans (hc1 k a ha 3 _ rfl)
  have y0:=(U.out.cell (p:=⟨b2,o2+k*4+0,none⟩) hb2).trans (hc2 k a ha 0 _ rfl)
  have y1:=(U.out.cell (p:=⟨b2,o2+k*4+1,none⟩) hb2).trans (hc2 k a ha 1 _ rfl)
  have y2:=(U.out.cell (p:=⟨b2,o2+k*4+2,none⟩) hb2).trans (hc2 k a ha 2 _ rfl)
  have y3:=(U.out.cell (p:=⟨b2,o2+k*4+3,none⟩) hb2).trans (hc2 k a ha 3 _ rfl)
  rw [Nat.add_zero] at x0 y0
  clear hc1 hc2 ha hb1 hb2
  obtain ⟨q1,q2,q3,q4⟩:=a
  simp only at x0 x1 x2 x3 y0 y1 y2 y3
  go_wp2_with fail
  go_quiet (fail)
  go_wp2_with fail
  go_roundg (gk-1)
  case measure=>omega
  case rel=>exact ⟨k+1,by omega,by go_num,H9 (Bel.drewN (w:=w) (W:=wr) U.out _)⟩
theorem TY.same {l1 l2:List TY} (h:l1.map TY.s=l2.map TY.s) {k:Nat} {a b:TY} (ha:l1[k]? = some a) (hb:l2[k]? = some b):a.s=b.s:=by
 have h1:=congrArg (fun l=>l[k]?) h
 simp only [List.getElem?_map,ha,hb,Option.map] at h1
 injection h1
theorem ztx {w:World} {n:Nat} {A:Option Addr} {l:List TY} (h:RowsAt w n 3 TY.row A l) {k:Nat} {a:TY} (ha:l[k]? = some a):∃ b off,A=some ⟨b,off,none⟩∧b<n ∧
 w.cell? ⟨b,off+k*3,none⟩=some (.int .i64 a.s.at_)∧w.cell? ⟨b,off+k*3+1,none⟩=some (.slice a.S a.s.zs.length a.c)∧w.cell? ⟨b,off+k*3+2,none⟩=some (.slice a.K a.s.ks.length a.kc):=by
 obtain ⟨b,off,rfl,hb,hc⟩:=h (by have:=(List.getElem?_eq_some_iff.1 ha).1;omega)
 exact ⟨b,off,rfl,hb,hc k a ha 0 _ rfl,hc k a ha 1 _ rfl,hc k a ha 2 _ rfl⟩
theorem zfh (A B:Option Addr) (l1 l2:List TY) (n c d:Nat) (hn:l1.length=n) (h9:n≤1000000) (h:l1.map TY.s=l2.map TY.s) (hz:∀ a∈l1,a.s.zs.length≤140737488355328∧a.s.ks.length≤140737488355328) (w:World) (hA:Sks w 0 A l1) (hB:Sks w 0 B l2):Calls Tryz.prog 14 #[.slice A n c, .slice B n d] w fun e w'=>e = .returned (.bool true)∧Below w.heap.size w w':=by
 have hn2:l2.length=n:=by have:=congrArg List.length h;simp at this;omega
 have HH:=H9 h
 have HA:=H9 hA
 have HB:=H9 hB
 have HZ:=H9 hz
 clear h hA hB hz
 go_enter Tryz.func14,Tryz.ntmps14
 go_wp2
 go_loopg [5] n (fun gk i wr => ∃ k:Nat,gk+k=n∧i = .int .i64 k∧Hid (Below w.heap.size w wr))
 case atStart=>exact ⟨0,rfl,rfl,H9 (Below.refl _ _)⟩
 case round =>
  obtain ⟨k,hgk,rfl,U⟩:=hrel
  have hi0:(0:Int)≤(k:Int):=by omega
  by_cases hk:k<n
  rotate_left
  · obtain rfl:k=n:=by omega
    have hi1:(k:Int)≤(k:Int):=Int.le_refl _
    go_wp2
    go_ret
    exact ⟨rfl,U.out⟩
  have hi1:(k:Int)<(n:Int):=by omega
  obtain ⟨a,ha⟩:∃ a,l1[k]? = some a:=⟨_,List.getElem?_eq_getElem (by omega)⟩
  obtain ⟨b,hb⟩:∃ b,l2[k]? = some b:=⟨_,List.getElem?_eq_getElem (by omega)⟩
  have hab:=TY.same HH.out ha hb
  have hza:=HZ.out a (List.mem_of_getElem? ha)
  obtain ⟨b1,o1,rfl,hb1,x0,x1,x2⟩:=ztx (HA.out.rows.keep (fun p hp=>U.out.cell hp)) ha
  obtain ⟨b2,o2,rfl,hb2,y0,y1,y2⟩:=ztx (HB.out.rows.keep (fun p hp=>U.out.cell hp)) hb
  have IA:=H9 (((HA.out.pay a (List.mem_of_getElem? ha)).1.keep (w':=wr) (fun p hp=>U.out.cell hp)).more U.out.size)
  have IB:=H9 (((HB.out.pay b (List.mem_of_getElem? hb)).1.keep (w':=wr) (fun p hp=>U.out.cell hp)).more U.out.size)
  have KA:=H9 (((HA.out.keys a (List.mem_of_getElem? ha)).1.keep (w':=wr) (fun p hp=>U.out.cell hp)).more U.out.size)
  have KB:=H9 (((HB.out.keys b (List.mem_of_getElem? hb)).1.keep (w':=wr) (fun p hp=>U.out.cell hp)).more U.out.size)
  obtain ⟨⟨at1,z1,ks1⟩,S1,c1,K1,kc1⟩:=a
  obtain ⟨⟨at2,z2,ks2⟩,S2,c2,K2,kc2⟩:=b
  injection hab with e1 e2 e3
  subst e1 e2 e3
  simp only at x0 x1 x2 y0 y1 y2 IA IB KA KB hza
  have k1:=H9 fun (W:World) hA hB=>zly S1 S2 z1 z1.length c1 c2 rfl W hA hB hza.1
  have k2:=H9 fun (W:World) hA hB=>zsd K1 K2 ks1 kc1 kc2 W hza.2 hA hB
  clear ha hb hza hb1 hb2
  go_upto_region 6 with fail
  go_cut [55] (fun s55 wx=>s55 = .bool false∧Hid (Below wr.heap.size wr wx))
  case first =>
   go_region_held3 (fun w'=>Below wr.heap.size wr w'∧w'.cell? ⟨b1,o1+k*3,none⟩=some (.int .i64 at1)∧w'.cell? ⟨b1,o1+k*3+1,none⟩=some (.slice S1 z1.length c1)∧w'.cell? ⟨b1,o1+k*3+2,none⟩=some (.slice K1 ks1.length kc1)∧w'.cell? ⟨b2,o2+k*3,none⟩=some (.int .i64 at1)∧w'.cell? ⟨b2,o2+k*3+1,none⟩=some (.slice S2 z1.length c2)∧w'.cell? ⟨b2,o2+k*3+2,none⟩=some (.slice K2 ks1.length kc2))
    (first|assumption|((try go_split_ands);refine zav ?_ (fun hbX=>⟨zaa hbX x0,zaa hbX x1,zaa hbX x2,zaa hbX y0,zaa hbX y1,zaa hbX y2⟩);(with_reducible repeat first|assumption|exact Below.refl _ _|exact zai (by assumption) (by assumption)|refine Below.drew ?_|refine zaj ?_ _)))
    (first
     | (go_at_call 33;refine (k1.out _ (IA.out.later (by (try go_split_ands);first|assumption|exact Below.drew (Below.refl _ _))) (IB.out.later (by (try go_split_ands);first|assumption|exact Below.drew (Below.refl _ _)))).mono ?_;rintro e w7 ⟨rfl,qb⟩;have hbw:Below wr.heap.size wr w7:=zai qb (by (try go_split_ands);first|assumption|exact Below.drew (Below.refl _ _)))
     | (go_at_call 57;refine (k2.out _ (KA.out.later hbw) (KB.out.later hbw)).mono ?_;rintro e w8 ⟨rfl,hbel2⟩;have hbw2:Below wr.heap.size wr w8:=zai hbel2 (by (try go_split_ands);assumption)))
   all_goals
    go_wp2_with fail
    go_meet
    exact ⟨rfl,H9 hbw2⟩
  case rest =>
   obtain ⟨rfl,HW⟩:=hcut
   have U2:=H9 (Bel.later (w:=w) U.out HW.out)
   clear x0 x1 x2 y0 y1 y2 IA IB KA KB k1 k2
   go_wp2
   go_roundg (gk-1)
   case measure=>omega
   case rel=>exact ⟨k+1,by omega,by go_num,U2⟩
theorem zec {w:World} {q:Sb.Pt} {A B:Option Addr} {n m c d:Nat} (hA:PW w q A n) (hB:PW w q B m) (hn:n≤1000000):Calls Tryz.prog 13 #[.agg (PA q A n c), .agg (PA q B m d)] w fun e w'=>e = .returned (.bool true)∧Below w.heap.size w w':=by
 obtain ⟨l1,q1,n1,w1⟩:=hA
 obtain ⟨l2,q2,n2,w2⟩:=hB
 obtain rfl:n=m:=by have h:=congrArg List.length (q1.trans q2.symm);simp at h;omega
 obtain ⟨X,hX⟩:∃ X,X=PA q A n c:=⟨_,rfl⟩
 obtain ⟨Y,hY⟩:∃ X,X=PA q B n d:=⟨_,rfl⟩
 rw [← hX,← hY]
 have B0:=H9 ((PB.new w X hX).push (.cells Y 48))
 have B1:=H9 (show PB ((w.alloc (Obj.cells X 48)).alloc (Obj.cells Y 48)) (w.heap.size+1) q B n d by rw [hY];exact Blk.new1 _ _ _ _)
 have U:=H9 (((Bel.refl w).push (.cells X 48)).push (.cells Y 48))
 have k1:=H9 fun (W:World) h1 h2=>zqm q.jt A B l1 l2 n c d W n1 (q1.trans q2.symm) hn h1 h2
 have H1:=H9 (w1.later U.out)
 have H2:=H9 (w2.later U.out)
 clear hX hY q1 q2 n1 n2 w1 w2
 go_enter Tryz.func13,Tryz.ntmps13
 go_upto_region 1 with fail
 change Code.wp _ _ _ _ ((w.alloc (Obj.cells X 48)).alloc (Obj.cells Y 48))
 obtain ⟨W,hW⟩:∃ W,W=(w.alloc (Obj.cells X 48)).alloc (Obj.cells Y 48):=⟨_,rfl⟩
 rw [← hW] at B0 B1 U H1 H2 ⊢
 clear hW
 have x0:=B0.out.cell 0 _ rfl
 have x1:=B0.out.cell 1 _ rfl
 have x2:=B0.out.cell 2 _ rfl
 have x3:=B0.out.cell 3 _ rfl
 have x4:=B0.out.cell 4 _ rfl
 have x5:=B0.out.cell 5 _ rfl
 have x31:=B0.out.cell 31 _ rfl
 have x45:=B0.out.cell 45 _ rfl
 have x46:=B0.out.cell 46 _ rfl
 have x47:=B0.out.cell 47 _ rfl
 have y0:=B1.out.cell 0 _ rfl
 have y1:=B1.out.cell 1 _ rfl
 have y2:=B1.out.cell 2 _ rfl
 have y3:=B1.out.cell 3 _ rfl
 have y4:=B1.out.cell 4 _ rfl
 have y5:=B1.out.cell 5 _ rfl
 have y31:=B1.out.cell 31 _ rfl
 have y45:=B1.out.cell 45 _ rfl
 have y46:=B1.out.cell 46 _ rfl
 have y47:=B1.out.cell 47 _ rfl
 obtain ⟨x6,x7⟩:=B0.out.cd
 obtain ⟨x8,x9,x10,x11,x12,x13⟩:=B0.out.tn
 obtain ⟨x28,x29,x30⟩:=B0.out.tk
 obtain ⟨x32,x33,x34,x35,x36,x37,x38,x39⟩:=B0.out.st
 obtain ⟨x40,x41,x42,x43,x44⟩:=B0.out.hd
 obtain ⟨y6,y7⟩:=B1.out.cd
 obtain ⟨y8,y9,y10,y11,y12,y13⟩:=B1.out.tn
 obtain ⟨y28,y29,y30⟩:=B1.out.tk
 obtain ⟨y32,y33,y34,y35,y36,y37,y38,y39⟩:=B1.out.st
 obtain ⟨y40,y41,y42,y43,y44⟩:=B1.out.hd
 go_upto_region 3 with fail
 clear x0 x1 x2 x3 x4 x5 x6 x7 x8 x9 x10 x11 x12 x13 x28 x29 x30 x31 x32 x33 x34 x35 x36 x37 x38 x39 x40 x41 x42 x43 x44 x45 x46 x47 y0 y1 y2 y3 y4 y5 y6 y7 y8 y9 y10 y11 y12 y13 y28 y29 y30 y31 y32 y33 y34 y35 y36 y37 y38 y39 y40 y41 y42 y43 y44 y45 y46 y47
 go_wp2_with (first|(refine zab rfl 40 (.tmp 108) rfl (w.heap.size) 14 rfl 48 (PL q A n c) B0.out 14 _ Tryz.underlying40 zaw (show 14+14≤48 by decide) (#[.int .i64 q.jt.least, .int .i64 q.jt.most, .int .i64 q.jt.now, .bool q.jt.on, .int .i64 q.jt.zero, .int .i64 q.jt.first, .int .i64 q.jt.high, .int .i64 q.jt.done, .int .i64 q.jt.spread, .int .i64 q.jt.trans, .slice A n c, .int .i64 q.jt.late, .int .i64 q.jt.twice, .int .i64 q.jt.played]) (by rfl) rfl ?_)|(refine zab rfl 40 (.tmp 110) rfl (w.heap.size+1) 14 rfl 48 (PL q B n d) B1.out 14 _ Tryz.underlying40 zaw (show 14+14≤48 by decide) (#[.int .i64 q.jt.least, .int .i64 q.jt.most, .int .i64 q.jt.now, .bool q.jt.on, .int .i64 q.jt.zero, .int .i64 q.jt.first, .int .i64 q.jt.high, .int .i64 q.jt.done, .int .i64 q.jt.spread, .int .i64 q.jt.trans, .slice B n d, .int .i64 q.jt.late, .int .i64 q.jt.twice, .int .i64 q.jt.played]) (by rfl) rfl ?_)|fail)
 refine (k1.out _ H1.out H2.out).mono ?_
 rintro e w1 ⟨rfl,hb1⟩
 have U2:=U.out.later hb1
 clear hb1
 go_wp2_with fail
 go_ret
 exact ⟨rfl,U2⟩
end Go.Proofs.YtahbecinkciahaaGreat
namespace Go.Proofs.YtahbecinkciahaaGreat
open Go.RowKit
theorem zci {P:Program} {ops:Array Oper} {rest:List Oper} {o:Oper} {a:Act} {w:World} {Q:Exit→Act→World→Prop} (hw:Region.wanted o (yielded ops a.tmps)=true) (ty:TypeId) (x:Operand) (ho:o.op = .load ty x) (g i:Nat) (hx:a.eval x = .pointer (some ⟨g,i,none⟩)) (t:TypeId) (cs:List Value) (hg:Blk w g t cs.toArray) (n:Nat) (d:TypeDesc) (hu:P.underlying ty=some d) (hi:(P.info? ty).map (·.size)=some n) (hn:i+n≤cs.length) (vs:Array Value) (hv:(partS cs i n).toArray=vs) (hd:aggT d=true)
 (h:wpList P ops Q rest (a.put o.dst (.agg vs)) w):wpList P ops Q (o::rest) a w:=by
 subst hv
 refine wpList_step fun K hK => ?_
 rw [if_pos hw]
 unfold Oper.wp execOp
 simp only [ho,hx,Instr.loadAt,Instr.sureAddr,Sem.run_bind,Sem.run_pure,Result.andThen_ok,zbu hg i n hd hu hi hn]
 exact hK _ _ h
theorem PW.small {W:World} {q:Sb.Pt} {A:Option Addr} {n:Nat} (h:PW W q A n) {m:Nat} (hq:q.jt.q.length≤m):n≤m:=by
 obtain ⟨l,h1,h2,_⟩:=h
 rw [← h1] at hq
 simp at hq
 omega
end Go.Proofs.YtahbecinkciahaaGreat
namespace Go.Proofs.YtahbecinkciahaaGreat
attribute [local go_sem ↓] zae zaf
attribute [local go_sem] zad zag
open Go.RowKit
theorem zwm {w:World} {p:Sb.Pt} {A:Option Addr} {l:List TW} {n c:Nat} {x:Rx} {now so la de:Int} {W:World} (C:XC w p A l n c x) (S:LV w W p A n c x)
 (h:∀ (W:World) (a:Act),LV w W p A n c x→Fr 144 [(1, .int .i64 now),(3, .int .u32 so),(4, .int .u32 la),(5, .int .u32 de),(6, .pointer (some ⟨w.heap.size,0,none⟩)),(8, .pointer (some ⟨w.heap.size+1,0,none⟩))] a→firstWp Tryz.prog rl7_code (bodyPost Tryz.prog Tryz.f4 (fun e w'=>e = .returned (.bool true)∧Below w.heap.size w w')) a W) (a:Act) (ha:Fr 144 [(1, .int .i64 now),(3, .int .u32 so),(4, .int .u32 la),(5, .int .u32 de),(6, .pointer (some ⟨w.heap.size,0,none⟩)),(8, .pointer (some ⟨w.heap.size+1,0,none⟩))] a):firstWp Tryz.prog rl3_code (bodyPost Tryz.prog Tryz.f4 (fun e w'=>e = .returned (.bool true)∧Below w.heap.size w w')) a W:=by
 have hql:p.jt.q.length≤100000:=by rw [← C.pc.q];simp;have:=C.pc.len;have:=C.pc.n5;omega
 have hsm:=znx hql C.ok now x.arr
 have k1:=H9 fun (W:World) (hW:Bel w W)=>zjy (C.at hW) now
 have k2:=H9 fun (W:World) (hW:Bel w W)=>zis (C.at hW) now
 unfold RecvX at k1 k2
 generalize Sb.recv p now x.arr=NW at *
 obtain ⟨q,vd,sd,er⟩:=NW
 dsimp only at k1 k2 hsm
 have HS:=H9 hsm
 clear hsm hql
 obtain ⟨s,rfl,e1,e3,e4,e5,e6,e8,_⟩:=ha
 rw [r144,e1,e3,e4,e5,e6,e8]
 clear e1 e3 e4 e5 e6 e8
 refine zau ?_
 intro _ _
 go_wp2_with (first|(refine zab rfl 48 (.tmp 6) rfl (w.heap.size) 0 rfl 48 (PL p A n c) S.b0 48 _ Tryz.underlying48 zah (show 0+48≤48 by decide) (PA p A n c) (by rfl) rfl ?_)|(refine zab rfl 51 (.tmp 8) rfl (w.heap.size+1) 0 rfl 51 ([.bool x.mrk, .int .u8 x.ty, .int .u16 x.sq, .int .u32 x.ti, .int .u32 x.src, .slice x.CA x.cn x.cc, .bool x.ex, .int .u16 x.pr, .slice x.EA x.en x.ec, .slice x.B x.pl.length x.pc, .int .i64 x.pad]) S.bx 11 _ Tryz.underlying51 zma (show 0+11≤11 by decide) x.row (by rfl) rfl ?_)|fail)
 refine (k1.out _ S.u).mono ?_
 rintro e w1 ⟨A1,n1,c1,SA1,sm1,sc1,ks1,rfl,hp1,hk1,hm1,hP1,hb1⟩
 replace S:=S.later hb1
 have HK1:=H9 hk1
 have HM1:=H9 hm1
 clear hb1 k1 hk1 hm1
 have BZ:Blk (w1.alloc (Obj.cells (PA Sb.Pt.zero none 0 0) 48)) w1.heap.size 48 (PL Sb.Pt.zero none 0 0).toArray:=Blk.new _ _ _
 go_upto_region 4 with (first|(refine zac rfl 48 (.tmp 13) (.tmp 48) rfl (w1.heap.size) 0 rfl 48 (PL Sb.Pt.zero none 0 0) BZ (PL q A1 n1 c1) rfl zah (show 0+48≤48 by decide) rfl (PL q A1 n1 c1) rfl ?_;intro W3 Ba OB)|fail)
 have hbb:=OB.below ((Below.refl _ w1).alloc (Nat.le_refl _) _) (by simp) (Nat.le_refl _)
 replace S:=S.later hbb
 replace hp1:=hp1.later hbb
 replace hP1:=hP1.later hbb
 replace Ba:=H9 (show PB W3 w1.heap.size q A1 n1 c1 from Ba)
 obtain ⟨ga,hga⟩:∃ g,g=w1.heap.size:=⟨_,rfl⟩
 rw [← hga] at Ba ⊢
 clear hga OB BZ hbb
 go_wp2_with (first|(refine zab rfl 48 (.tmp 6) rfl (w.heap.size) 0 rfl 48 (PL p A n c) S.b0 48 _ Tryz.underlying48 zah (show 0+48≤48 by decide) (PA p A n c) (by rfl) rfl ?_)|(refine zab rfl 51 (.tmp 8) rfl (w.heap.size+1) 0 rfl 51 ([.bool x.mrk, .int .u8 x.ty, .int .u16 x.sq, .int .u32 x.ti, .int .u32 x.src, .slice x.CA x.cn x.cc, .bool x.ex, .int .u16 x.pr, .slice x.EA x.en x.ec, .slice x.B x.pl.length x.pc, .int .i64 x.pad]) S.bx 11 _ Tryz.underlying51 zma (show 0+11≤11 by decide) x.row (by rfl) rfl ?_)|fail)
 refine (k2.out _ S.u).mono ?_
 rintro e w2 ⟨A2,n2,c2,SA2,sm2,sc2,ks2,rfl,hp2,hk2,hm2,hP2,hb1⟩
 replace S:=S.later hb1
 replace Ba:=H9 (Ba.out.later hb1)
 replace hp1:=hp1.later hb1
 replace hP1:=hP1.later hb1
 have HK2:=H9 (HK1.out.trans hk2.symm)
 obtain rfl:sm1=sm2:=by rw [← HM1.out,← hm2];have:=congrArg List.length HK2.out;simpa using this
 clear hb1 k2 hk2 hm2
 have BZ:Blk (w2.alloc (Obj.cells (PA Sb.Pt.zero none 0 0) 48)) w2.heap.size 48 (PL Sb.Pt.zero none 0 0).toArray:=Blk.new _ _ _
 go_upto_region 5 with (first|(refine zac rfl 48 (.tmp 17) (.tmp 57) rfl (w2.heap.size) 0 rfl 48 (PL Sb.Pt.zero none 0 0) BZ (PL q A2 n2 c2) rfl zah (show 0+48≤48 by decide) rfl (PL q A2 n2 c2) rfl ?_;intro W4 Bb OB)|fail)
 have hbb:=OB.below ((Below.refl _ w2).alloc (Nat.le_refl _) _) (by simp) (Nat.le_refl _)
 replace S:=S.later hbb
 replace Ba:=H9 (Ba.out.later hbb)
 replace hp1:=hp1.later hbb
 replace hP1:=hP1.later hbb
 replace hp2:=hp2.later hbb
 replace hP2:=hP2.later hbb
 replace Bb:=H9 (show PB W4 w2.heap.size q A2 n2 c2 from Bb)
 obtain ⟨gb,hgb⟩:∃ g,g=w2.heap.size:=⟨_,rfl⟩
 rw [← hgb] at Bb ⊢
 clear hgb OB BZ hbb
 have hn1:=hp1.small HS.out.1
 have hl1:sm1≤1000000:=by have h1:=congrArg List.length HK1.out;have h2:=HS.out.2.1;have h3:=HM1.out;simp at h1;omega
 have k3:=H9 fun (V:World) (h1:PW V q A1 n1) (h2:PW V q A2 n2)=>zec (c:=c1) (d:=c2) h1 h2 hn1
 have k4:=H9 fun (V:World) h1 h2=>zfh SA1 SA2 ks1 ks2 sm1 sc1 sc2 HM1.out hl1 HK2.out (fun a ha=>HS.out.2.2 a.s (by rw [← HK1.out];exact List.mem_map_of_mem ha)) V h1 h2
 have HP:=H9 (show PW W4 q A1 n1∧PW W4 q A2 n2∧Sks W4 0 SA1 ks1∧Sks W4 0 SA2 ks2 from ⟨hp1,hp2,hP1,hP2⟩)
 clear hn1 hl1 hp1 hp2 hP1 hP2
 go_wp2_with (first|(refine zab rfl 48 (.tmp 13) rfl (ga) 0 rfl 48 (PL q A1 n1 c1) Ba.out 48 _ Tryz.underlying48 zah (show 0+48≤48 by decide) (PA q A1 n1 c1) (by rfl) rfl ?_)|(refine zab rfl 48 (.tmp 17) rfl (gb) 0 rfl 48 (PL q A2 n2 c2) Bb.out 48 _ Tryz.underlying48 zah (show 0+48≤48 by decide) (PA q A2 n2 c2) (by rfl) rfl ?_)|fail)
 refine (k3.out _ HP.out.1 HP.out.2.1).mono ?_
 rintro e w5 ⟨rfl,hb1⟩
 replace S:=S.later hb1
 replace HP:=H9 (show Sks w5 0 SA1 ks1∧Sks w5 0 SA2 ks2 from ⟨HP.out.2.2.1.later hb1,HP.out.2.2.2.later hb1⟩)
 clear hb1 k3
 go_wp2_with fail
 refine (k4.out _ HP.out.1 HP.out.2).mono ?_
 rintro e w6 ⟨rfl,hb1⟩
 replace S:=S.later hb1
 clear hb1 k4 HP
 go_upto_region 7 with fail
 refine zas (by assumption) ?_
 exact h _ _ S (Fr.mk rfl ⟨rfl,rfl,rfl,rfl,rfl,rfl,trivial⟩)
theorem zse {w:World} {p:Sb.Pt} {A:Option Addr} {l:List TW} {n c:Nat} {X:Array Value} (C:PC w p A l n c) (hX:X=PA p A n c) (now:Int) (hO:p.valid=true→∀ a∈p.jt.q,OkW a):Calls Tryz.prog 15 #[.agg X, .int .i64 now] w (PlyR (Sb.play p now) w):=by
 obtain ⟨v,hv⟩:∃ v,v=Sb.chkT p now:=⟨_,rfl⟩
 by_cases h0:v=0
 · have hc:Sb.chkT p now=0:=by rw [← hv];exact h0
   have hvl:p.valid=true:=by
    cases h:p.valid with
    | true=>rfl
    | false=>unfold Sb.chkT at hc;rw [if_pos (.inl h)] at hc;exact absurd hc (by decide)
   refine (zrg p C.wf A l n c X hX w C.q C.len C.n5 C.cap C.cm C.av C.sq now hc (hO hvl)).mono ?_
   rintro e w' ⟨A',n',c',l',SA,sc,m,ls,base,h1,h2,h3,_,_,h6,h7,h8,h9,h10⟩
   refine ⟨A',n',c',SA,m,sc,ls.map TS.ty,?_,?_,?_,by simpa using h9.len,?_,h10⟩
   · unfold Sb.play;rw [if_pos hc];exact h1
   · unfold Sb.play;rw [if_pos hc];exact ⟨l',h2,h3,h6.rows⟩
   · unfold Sb.play;rw [if_pos hc,ty_s];exact h7
   · exact (h9.sks (zgg h7)).less (Nat.zero_le _)
 have S:=RB.new w X hX
 have k1:=H9 fun (W:World) hW=>zbv p C.wf A l n c (PA p A n c) rfl W C.q C.len C.n5 hW C.sq now
 rw [← hv] at k1
 have hp:Sb.play p now=(Sb.Pt.zero,[],v):=by unfold Sb.play;rw [← hv,if_neg h0]
 rw [hp]
 clear hv hp hO
 clear hX
 go_enter Tryz.func15,Tryz.ntmps15
 go_upto_region 1 with fail
 change Code.wp _ _ _ _ ((w.alloc (Obj.cells X 48)).alloc (Obj.cells (PA Sb.Pt.zero none 0 0) 48))
 obtain ⟨W,hW⟩:∃ W,W=(w.alloc (Obj.cells X 48)).alloc (Obj.cells (PA Sb.Pt.zero none 0 0) 48):=⟨_,rfl⟩
 rw [← hW] at S ⊢
 clear hW
 go_wp2_with (first|(refine zab rfl 48 (.tmp 2) rfl (w.heap.size) 0 rfl 48 (PL p A n c) S.b0 48 _ Tryz.underlying48 zah (show 0+48≤48 by decide) (PA p A n c) (by rfl) rfl ?_)|fail)
 refine (k1.out _ (C.av.later S.u)).mono ?_
 rintro e w1 ⟨rfl,hb1⟩
 replace S:=S.later hb1
 clear hb1 k1
 have hL:=S.lt
 go_wp2_with (first|(refine zac rfl 48 (.tmp 4) (.tmp 16) rfl (w.heap.size+1) 0 rfl 48 (PL Sb.Pt.zero none 0 0) S.b1 (PL Sb.Pt.zero none 0 0) rfl zah (show 0+48≤48 by decide) rfl (PL Sb.Pt.zero none 0 0) rfl ?_;intro WH BH OH)|fail)
 exact bodyPost_ret (v := .tuple #[.agg (PA Sb.Pt.zero none 0 0), .slice none 0 0, .int .u8 v]) (zax Tryz.results15 rfl (PB.load (p:=Sb.Pt.zero) (A:=none) (n:=0) (c:=0) BH) rfl rfl) rfl (PlyR.zero rfl (OH.bel S.u (by omega)))
theorem zpt {w:World} {p:Sb.Pt} {A:Option Addr} {l:List TW} {n c:Nat} {X:Array Value} (C:PC w p A l n c) (hX:X=PA p A n c) (now:Int) (hO:p.valid=true→∀ a∈p.jt.q,OkW a):Calls Tryz.prog 16 #[.agg X, .int .i64 now] w (PlyR (Sb.play p now) w):=by
 have S:=RB.new w X hX
 obtain ⟨v,hv⟩:∃ v,v=p.valid:=⟨_,rfl⟩
 have k1:=H9 fun (W:World) hW=>zcm p A l n c (PA p A n c) rfl W C.q C.len C.n5 hW (fun a h=>Nat.le_trans (C.pay a h) (by decide)) v hv
 have k2:=H9 fun (W:World) hW=>zpz p.jt A l n c now W C.q C.len C.n5 C.cap C.cm hW (fun a h=>Nat.le_trans (C.pay a h) (by decide))
 have hql:p.jt.q.length≤100000:=by rw [← C.q];simp;have:=C.len;have:=C.n5;omega
 unfold JRunB JV at k2
 have HV:=H9 hv
 clear hv
 obtain ⟨RP,hRP⟩:∃ R,R=Sb.play p now:=⟨_,rfl⟩
 rw [← hRP]
 have HRP:=H9 hRP
 clear hRP
 clear hX
 go_enter Tryz.func16,Tryz.ntmps16
 go_upto_region 1 with fail
 change Code.wp _ _ _ _ ((w.alloc (Obj.cells X 48)).alloc (Obj.cells (PA Sb.Pt.zero none 0 0) 48))
 obtain ⟨W,hW⟩:∃ W,W=(w.alloc (Obj.cells X 48)).alloc (Obj.cells (PA Sb.Pt.zero none 0 0) 48):=⟨_,rfl⟩
 rw [← hW] at S ⊢
 clear hW
 go_wp2_with (first|(refine zab rfl 48 (.tmp 2) rfl (w.heap.size) 0 rfl 48 (PL p A n c) S.b0 48 _ Tryz.underlying48 zah (show 0+48≤48 by decide) (PA p A n c) (by rfl) rfl ?_)|fail)
 refine (k1.out _ (C.av.later S.u)).mono ?_
 rintro e w1 ⟨rfl,hb1⟩
 replace S:=S.later hb1
 clear hb1 k1
 have hL:=S.lt
 cases v
 · obtain rfl:RP=(Sb.Pt.zero,[],2):=by
    have h2:Sb.chkT p now=2:=by unfold Sb.chkT;rw [if_pos (.inl HV.out.symm)]
    rw [HRP.out];unfold Sb.play;rw [h2,if_neg (by decide)]
   go_wp2_with (first|(refine zac rfl 48 (.tmp 4) (.tmp 14) rfl (w.heap.size+1) 0 rfl 48 (PL Sb.Pt.zero none 0 0) S.b1 (PL Sb.Pt.zero none 0 0) rfl zah (show 0+48≤48 by decide) rfl (PL Sb.Pt.zero none 0 0) rfl ?_;intro WH BH OH)|fail)
   exact bodyPost_ret (v := .tuple #[.agg (PA Sb.Pt.zero none 0 0), .slice none 0 0, .int .u8 2]) (zax Tryz.results16 rfl (PB.load (p:=Sb.Pt.zero) (A:=none) (n:=0) (c:=0) BH) rfl rfl) rfl (PlyR.zero rfl (OH.bel S.u (by omega)))
 have hct:=zxp HV.out.symm now
 have hrun:(Jb.run p.jt now).2.2=Jb.chk p.jt now true∧(Jb.run p.jt now).2.1.length≤100000∧∀ a∈(Jb.run p.jt now).2.1,OkW a:=by
  unfold Jb.run
  split
  · rename_i h
    exact ⟨h.symm,Nat.le_trans (List.takeWhile_sublist _).length_le hql,zce (hO HV.out.symm)⟩
  · exact ⟨rfl,by simp,fun a ha=>by cases ha⟩
 have HRN:=H9 hrun
 have HCT:=H9 hct
 clear hrun hct hql hO
 go_upto_region 3 with fail
 go_wp2_with (first|(refine zab rfl 40 (.tmp 16) rfl (w.heap.size) 14 rfl 48 (PL p A n c) S.b0 14 _ Tryz.underlying40 zaw (show 14+14≤48 by decide) (#[.int .i64 p.jt.least, .int .i64 p.jt.most, .int .i64 p.jt.now, .bool p.jt.on, .int .i64 p.jt.zero, .int .i64 p.jt.first, .int .i64 p.jt.high, .int .i64 p.jt.done, .int .i64 p.jt.spread, .int .i64 p.jt.trans, .slice A n c, .int .i64 p.jt.late, .int .i64 p.jt.twice, .int .i64 p.jt.played]) (by rfl) rfl ?_)|fail)
 refine (k2.out _ (C.av.later S.u)).mono ?_
 rintro e w2 ⟨A1,c1,l1,A2,c2,l2,rfl, -, -, -, -, -, -, hb1, -, -⟩
 replace S:=S.later hb1
 clear hb1 k2
 have k3:=H9 fun (W:World) (hW:Bel w W)=>zcr (C.later hW) rfl now HRN.out.2.2 HRN.out.2.1
 unfold RRunP at k3
 have hre:=HRN.out.1.trans HCT.out.symm
 obtain ⟨er,her⟩:∃ er,er=(Jb.run p.jt now).2.2:=⟨_,rfl⟩
 rw [← her] at hre ⊢
 have HRE:=H9 hre
 generalize (Jb.run p.jt now).1=J1
 clear her hre HRN
 replace S:=S.push (.cells (JW J1 A2 l2.length c2).toArray 40)
 obtain ⟨W3,hW3⟩:∃ V,V=w2.alloc (.cells (JW J1 A2 l2.length c2).toArray 40):=⟨_,rfl⟩
 go_upto_region 4 with fail
 change Code.wp _ _ _ _ (w2.alloc (.cells (JW J1 A2 l2.length c2).toArray 40))
 rw [← hW3] at S ⊢
 clear hW3
 have hL:=S.lt
 by_cases he:er=0
 rotate_left
 · obtain rfl:RP=(Sb.Pt.zero,[],er):=by rw [HRP.out];unfold Sb.play;rw [← HRE.out,if_neg he]
   go_wp2_with (first|(refine zac rfl 48 (.tmp 4) (.tmp 25) rfl (w.heap.size+1) 0 rfl 48 (PL Sb.Pt.zero none 0 0) S.b1 (PL Sb.Pt.zero none 0 0) rfl zah (show 0+48≤48 by decide) rfl (PL Sb.Pt.zero none 0 0) rfl ?_;intro WH BH OH)|fail)
   exact bodyPost_ret (v := .tuple #[.agg (PA Sb.Pt.zero none 0 0), .slice none 0 0, .int .u8 er]) (zax Tryz.results16 rfl (PB.load (p:=Sb.Pt.zero) (A:=none) (n:=0) (c:=0) BH) rfl rfl) rfl (PlyR.zero rfl (OH.bel S.u (by omega)))
 subst he
 obtain rfl:RP=((Sb.run p now).1,(Sb.run p now).2,0):=by rw [HRP.out];unfold Sb.play;rw [← HRE.out,if_pos rfl]
 have HNK:=H9 (show ∀ ls:List TS,ls.map TS.s=(Sb.run p now).2→∀ a∈ls,a.s.ks=[] from fun ls h=>zgg h)
 generalize Sb.run p now=RR at *
 obtain ⟨q,sd⟩:=RR
 dsimp only at k3 HNK
 go_upto_region 6 with fail
 go_wp2_with (first|(refine zab rfl 48 (.tmp 2) rfl (w.heap.size) 0 rfl 48 (PL p A n c) S.b0 48 _ Tryz.underlying48 zah (show 0+48≤48 by decide) (PA p A n c) (by rfl) rfl ?_)|fail)
 have hLc:=S.lt
 have Q0:=C.qa S.u (S:=[w.heap.size+1,w.heap.size]) (by intro x hx;simp at hx;omega)
 refine (k3.out _ S.u).mono ?_
 rintro e w4 ⟨A4,n4,c4,l4,SA,sm,sc,ls,mid,rfl,hq4,hn4,hW4,hs4,hls,hso,hmid,hrb,hmz,hb1⟩
 replace hso:=hso.lower' hmid
 replace S:=S.later hb1
 have Q4:QAv w4 [w.heap.size+1,w.heap.size] A4 l4:=QAv.sub_of hW4 hs4 Q0 (by intro x hx;simp at hx;omega)
 have HX4:=H9 (And.intro hq4 (And.intro hn4 hls))
 clear hb1 k3 hq4 hn4 hls hW4 hs4 Q0 hmid hrb
 go_upto_region 7 with (first|(refine zac rfl 48 (.tmp 2) (.tmp 31) rfl (w.heap.size) 0 rfl 48 (PL p A n c) S.b0 (PL q A4 n4 c4) rfl zah (show 0+48≤48 by decide) rfl (PL q A4 n4 c4) rfl ?_;intro WG BG OG)|fail)
 replace S:=S.over OG BG
 replace Q4:=Q4.chg (Chg.of_only OG (S:=[w.heap.size]) (by simp)) (by simp)
 replace hso:=hso.only OG (by omega)
 clear BG OG
 go_wp2_with (first|(refine zab rfl 48 (.tmp 2) rfl (w.heap.size) 0 rfl 48 (PL q A4 n4 c4) S.b0 48 _ Tryz.underlying48 zah (show 0+48≤48 by decide) (PA q A4 n4 c4) (by rfl) rfl ?_)|(refine zac rfl 48 (.tmp 4) (.tmp 33) rfl (w.heap.size+1) 0 rfl 48 (PL Sb.Pt.zero none 0 0) S.b1 (PL q A4 n4 c4) rfl zah (show 0+48≤48 by decide) rfl (PL q A4 n4 c4) rfl ?_;intro WH BH OH)|fail)
 refine bodyPost_ret (v := .tuple #[.agg (PA q A4 n4 c4), .slice SA sm sc, .int .u8 0]) (zax Tryz.results16 rfl (PB.load BH) rfl rfl) rfl ⟨A4,n4,c4,SA,sm,sc,ls.map TS.ty,rfl,⟨l4,HX4.out.1,HX4.out.2.1,(Q4.chg (Chg.of_only OH (S:=[w.heap.size+1]) (by simp)) (by simp)).wts⟩,(ty_s ls).trans HX4.out.2.2,by simpa using hso.len,?_,OH.bel S.u (by omega)⟩
 exact ((hso.only OH (by omega)).sks (HNK.out ls HX4.out.2.2)).less (Nat.zero_le _)
theorem zwn {w:World} {p:Sb.Pt} {A:Option Addr} {l:List TW} {n c:Nat} {x:Rx} {now so la de:Int} {W:World} (C:XC w p A l n c x) (S:LV w W p A n c x)
 (h:∀ (W:World) (a:Act),LV w W p A n c x→Fr 144 [(1, .int .i64 now),(3, .int .u32 so),(4, .int .u32 la),(5, .int .u32 de),(6, .pointer (some ⟨w.heap.size,0,none⟩)),(8, .pointer (some ⟨w.heap.size+1,0,none⟩))] a→firstWp Tryz.prog rl11_code (bodyPost Tryz.prog Tryz.f4 (fun e w'=>e = .returned (.bool true)∧Below w.heap.size w w')) a W) (a:Act) (ha:Fr 144 [(1, .int .i64 now),(3, .int .u32 so),(4, .int .u32 la),(5, .int .u32 de),(6, .pointer (some ⟨w.heap.size,0,none⟩)),(8, .pointer (some ⟨w.heap.size+1,0,none⟩))] a):firstWp Tryz.prog rl7_code (bodyPost Tryz.prog Tryz.f4 (fun e w'=>e = .returned (.bool true)∧Below w.heap.size w w')) a W:=by
 have hql:p.jt.q.length≤100000:=by rw [← C.pc.q];simp;have:=C.pc.len;have:=C.pc.n5;omega
 have hsm:=znw hql C.ok now
 have k1:=H9 fun (W:World) (hW:Bel w W)=>zse (C.pc.later hW) rfl now (fun _=>C.ok)
 have k2:=H9 fun (W:World) (hW:Bel w W)=>zpt (C.pc.later hW) rfl now (fun _=>C.ok)
 unfold PlyR at k1 k2
 generalize Sb.play p now=NW at *
 obtain ⟨q,sd,er⟩:=NW
 dsimp only at k1 k2 hsm
 have HS:=H9 hsm
 clear hsm hql
 obtain ⟨s,rfl,e1,e3,e4,e5,e6,e8,_⟩:=ha
 rw [r144,e1,e3,e4,e5,e6,e8]
 clear e1 e3 e4 e5 e6 e8
 refine zau ?_
 intro _ _
 go_wp2_with (first|(refine zab rfl 48 (.tmp 6) rfl (w.heap.size) 0 rfl 48 (PL p A n c) S.b0 48 _ Tryz.underlying48 zah (show 0+48≤48 by decide) (PA p A n c) (by rfl) rfl ?_)|fail)
 refine (k1.out _ S.u).mono ?_
 rintro e w1 ⟨A1,n1,c1,SA1,sm1,sc1,ks1,rfl,hp1,hk1,hm1,hP1,hb1⟩
 replace S:=S.later hb1
 have HK1:=H9 hk1
 have HM1:=H9 hm1
 clear hb1 k1 hk1 hm1
 have BZ:Blk (w1.alloc (Obj.cells (PA Sb.Pt.zero none 0 0) 48)) w1.heap.size 48 (PL Sb.Pt.zero none 0 0).toArray:=Blk.new _ _ _
 go_upto_region 8 with (first|(refine zac rfl 48 (.tmp 21) (.tmp 85) rfl (w1.heap.size) 0 rfl 48 (PL Sb.Pt.zero none 0 0) BZ (PL q A1 n1 c1) rfl zah (show 0+48≤48 by decide) rfl (PL q A1 n1 c1) rfl ?_;intro W3 Ba OB)|fail)
 have hbb:=OB.below ((Below.refl _ w1).alloc (Nat.le_refl _) _) (by simp) (Nat.le_refl _)
 replace S:=S.later hbb
 replace hp1:=hp1.later hbb
 replace hP1:=hP1.later hbb
 replace Ba:=H9 (show PB W3 w1.heap.size q A1 n1 c1 from Ba)
 obtain ⟨ga,hga⟩:∃ g,g=w1.heap.size:=⟨_,rfl⟩
 rw [← hga] at Ba ⊢
 clear hga OB BZ hbb
 go_wp2_with (first|(refine zab rfl 48 (.tmp 6) rfl (w.heap.size) 0 rfl 48 (PL p A n c) S.b0 48 _ Tryz.underlying48 zah (show 0+48≤48 by decide) (PA p A n c) (by rfl) rfl ?_)|fail)
 refine (k2.out _ S.u).mono ?_
 rintro e w2 ⟨A2,n2,c2,SA2,sm2,sc2,ks2,rfl,hp2,hk2,hm2,hP2,hb1⟩
 replace S:=S.later hb1
 replace Ba:=H9 (Ba.out.later hb1)
 replace hp1:=hp1.later hb1
 replace hP1:=hP1.later hb1
 have HK2:=H9 (HK1.out.trans hk2.symm)
 obtain rfl:sm1=sm2:=by rw [← HM1.out,← hm2];have:=congrArg List.length HK2.out;simpa using this
 clear hb1 k2 hk2 hm2
 have BZ:Blk (w2.alloc (Obj.cells (PA Sb.Pt.zero none 0 0) 48)) w2.heap.size 48 (PL Sb.Pt.zero none 0 0).toArray:=Blk.new _ _ _
 go_upto_region 9 with (first|(refine zac rfl 48 (.tmp 24) (.tmp 92) rfl (w2.heap.size) 0 rfl 48 (PL Sb.Pt.zero none 0 0) BZ (PL q A2 n2 c2) rfl zah (show 0+48≤48 by decide) rfl (PL q A2 n2 c2) rfl ?_;intro W4 Bb OB)|fail)
 have hbb:=OB.below ((Below.refl _ w2).alloc (Nat.le_refl _) _) (by simp) (Nat.le_refl _)
 replace S:=S.later hbb
 replace Ba:=H9 (Ba.out.later hbb)
 replace hp1:=hp1.later hbb
 replace hP1:=hP1.later hbb
 replace hp2:=hp2.later hbb
 replace hP2:=hP2.later hbb
 replace Bb:=H9 (show PB W4 w2.heap.size q A2 n2 c2 from Bb)
 obtain ⟨gb,hgb⟩:∃ g,g=w2.heap.size:=⟨_,rfl⟩
 rw [← hgb] at Bb ⊢
 clear hgb OB BZ hbb
 have hn1:=hp1.small HS.out.1
 have hl1:sm1≤1000000:=by have h1:=congrArg List.length HK1.out;have h2:=HS.out.2.1;have h3:=HM1.out;simp at h1;omega
 have k3:=H9 fun (V:World) (h1:PW V q A1 n1) (h2:PW V q A2 n2)=>zec (c:=c1) (d:=c2) h1 h2 hn1
 have k4:=H9 fun (V:World) h1 h2=>zfh SA1 SA2 ks1 ks2 sm1 sc1 sc2 HM1.out hl1 HK2.out (fun a ha=>HS.out.2.2 a.s (by rw [← HK1.out];exact List.mem_map_of_mem ha)) V h1 h2
 have HP:=H9 (show PW W4 q A1 n1∧PW W4 q A2 n2∧Sks W4 0 SA1 ks1∧Sks W4 0 SA2 ks2 from ⟨hp1,hp2,hP1,hP2⟩)
 clear hn1 hl1 hp1 hp2 hP1 hP2
 go_wp2_with (first|(refine zab rfl 48 (.tmp 21) rfl (ga) 0 rfl 48 (PL q A1 n1 c1) Ba.out 48 _ Tryz.underlying48 zah (show 0+48≤48 by decide) (PA q A1 n1 c1) (by rfl) rfl ?_)|(refine zab rfl 48 (.tmp 24) rfl (gb) 0 rfl 48 (PL q A2 n2 c2) Bb.out 48 _ Tryz.underlying48 zah (show 0+48≤48 by decide) (PA q A2 n2 c2) (by rfl) rfl ?_)|fail)
 refine (k3.out _ HP.out.1 HP.out.2.1).mono ?_
 rintro e w5 ⟨rfl,hb1⟩
 replace S:=S.later hb1
 replace HP:=H9 (show Sks w5 0 SA1 ks1∧Sks w5 0 SA2 ks2 from ⟨HP.out.2.2.1.later hb1,HP.out.2.2.2.later hb1⟩)
 clear hb1 k3
 go_wp2_with fail
 refine (k4.out _ HP.out.1 HP.out.2).mono ?_
 rintro e w6 ⟨rfl,hb1⟩
 replace S:=S.later hb1
 clear hb1 k4 HP
 go_upto_region 11 with fail
 refine zas (by assumption) ?_
 exact h _ _ S (Fr.mk rfl ⟨rfl,rfl,rfl,rfl,rfl,rfl,trivial⟩)
end Go.Proofs.YtahbecinkciahaaGreat
namespace Go.Proofs.YtahbecinkciahaaGreat
open Go.RowKit
theorem zbe:(Tryz.prog.info? 62).map (·.size)=some 7:=by kernel_rfl
def RepR (R:Rep.Bk×Sb.Pt×Int) (w:World) (e:Ending) (w':World):Prop:=∃ (A:Option Addr) (n c:Nat),e = .returned (.tuple #[.agg R.1.row, .agg (PA R.2.1 A n c), .int .u8 R.2.2])∧PW w' R.2.1 A n∧Below w.heap.size w w'
structure RK (w W:World) (p:Sb.Pt) (A:Option Addr) (n c:Nat):Prop where
 b0:PB W w.heap.size p A n c
 bk:Blk W (w.heap.size+1) 62 Rep.Bk.zero.row
 b1:PB W (w.heap.size+1+1) Sb.Pt.zero none 0 0
 u:Bel w W
section
variable {w W W':World} {p p':Sb.Pt} {A A':Option Addr} {n n' c c':Nat}
theorem RK.new (w:World) (X:Array Value) (hX:X=PA p A n c):RK w (((w.alloc (.cells X 48)).alloc (.cells Rep.Bk.zero.row 62)).alloc (.cells (PA Sb.Pt.zero none 0 0) 48)) p A n c:=⟨((PB.new w X hX).push _).push _,(Blk.new1 _ _ _ _).push _,Blk.new2 _ _ _ _ _,(((Bel.refl w).push _).push _).push _⟩
theorem RK.later (h:RK w W p A n c) (hb:Below W.heap.size W W'):RK w W' p A n c:=⟨h.b0.later hb,h.bk.later hb,h.b1.later hb,h.u.later hb⟩
theorem RK.push (h:RK w W p A n c) (o:Obj):RK w (W.alloc o) p A n c:=h.later ((Below.refl _ _).alloc (Nat.le_refl _) _)
theorem RK.over (h:RK w W p A n c) (ho:OnlyB w.heap.size W W') (hb:PB W' w.heap.size p' A' n' c'):RK w W' p' A' n' c':=⟨hb,ho.blk h.bk (by omega),ho.blk h.b1 (by omega),ho.bel h.u (Nat.le_refl _)⟩
theorem RK.lt (h:RK w W p A n c):w.heap.size+1+1<W.heap.size:=Blk.lt h.b1
end
end Go.Proofs.YtahbecinkciahaaGreat
namespace Go.Proofs.YtahbecinkciahaaGreat
attribute [local go_sem ↓] zae zaf
attribute [local go_sem] zad zag
open Go.RowKit
def Sl (s:Rep.St):List Value:=[.bool s.seen, .int .i64 s.base, .int .i64 s.high, .int .i64 s.got, .int .i64 s.wexp, .int .i64 s.wrec, .int .i64 s.trans, .int .i64 s.jit]
def Kl (b:Rep.Bk):List Value:=[.int .u32 b.source, .int .u8 b.frac, .int .i64 b.lost, .int .u32 b.high, .int .u32 b.jit, .int .u32 b.last, .int .u32 b.delay]
theorem zbf:(Tryz.prog.info? 44).map (·.size)=some 8:=by kernel_rfl
theorem zbg:(Tryz.prog.info? 62).map (·.size)=some 7:=by kernel_rfl
structure SmS (w W:World) (s:Rep.St) (g:Nat) (k:Rep.Bk):Prop where
 b0:Blk W w.heap.size 44 (Sl s).toArray
 b1:Blk W (w.heap.size+1) 62 (Kl Rep.Bk.zero).toArray
 b2:Blk W (w.heap.size+1+1) 44 (Sl Rep.St.zero).toArray
 bk:Blk W g 62 (Kl k).toArray
 u:Bel w W
 hg:w.heap.size+1+1<g
theorem SmS.setS {w W:World} {s:Rep.St} {g:Nat} {k:Rep.Bk} (h:SmS w W s g k) (i:Nat) (v:Value) (s':Rep.St) (hJ:(Sl s).set i v=Sl s':=by rfl):SmS w (W.setCell ⟨w.heap.size,i,none⟩ v) s' g k:=by
 have:=h.hg
 refine ⟨?_,h.b1.far (by simp) _,h.b2.far (by simp;omega) _,h.bk.far (show g≠w.heap.size by omega) _,zal h.u (Nat.le_refl _) _,h.hg⟩
 have:=h.b0.set_ i v
 rw [← hJ]
 simpa using this
theorem SmS.setK {w W:World} {s:Rep.St} {g:Nat} {k:Rep.Bk} (h:SmS w W s g k) (i:Nat) (v:Value) (k':Rep.Bk) (hJ:(Kl k).set i v=Kl k':=by rfl):SmS w (W.setCell ⟨g,i,none⟩ v) s g k':=by
 have:=h.hg
 refine ⟨h.b0.far (show w.heap.size≠g by omega) _,h.b1.far (show w.heap.size+1≠g by omega) _,h.b2.far (show w.heap.size+1+1≠g by omega) _,?_,zal h.u (show w.heap.size≤g by omega) _,h.hg⟩
 have:=h.bk.set_ i v
 rw [← hJ]
 simpa using this
theorem Rep.modl (x:Int):(wrap64 (x.tmod 4294967296+4294967296)).tmod 4294967296 % 4294967296=x % 4294967296:=by
 have h : -4294967296<x.tmod 4294967296∧x.tmod 4294967296<4294967296∧(x.tmod 4294967296+4294967296) % 4294967296=x % 4294967296:=by
  rcases Int.le_total 0 x with h|h
  · rw [Int.tmod_eq_emod_of_nonneg h];omega
  · obtain ⟨n,hn⟩:∃ n,n = -x:=⟨_,rfl⟩
    have hx:x = -n:=by omega
    rw [hx,Int.neg_tmod,Int.tmod_eq_emod_of_nonneg (by omega)]
    omega
 rw [IntWalk.wrap64_in _ ⟨by omega,by omega⟩,Int.tmod_eq_emod_of_nonneg (by omega),h.2.2]
 omega
structure SmB (w W:World) (s:Rep.St):Prop where
 b0:Blk W w.heap.size 44 (Sl s).toArray
 b1:Blk W (w.heap.size+1) 62 (Kl Rep.Bk.zero).toArray
 b2:Blk W (w.heap.size+1+1) 44 (Sl Rep.St.zero).toArray
 u:Bel w W
theorem SmB.later {w W W':World} {s:Rep.St} (h:SmB w W s) (hb:Below W.heap.size W W'):SmB w W' s:=⟨h.b0.later hb,h.b1.later hb,h.b2.later hb,h.u.later hb⟩
theorem r82 (s:Nat→Value):((List.range 82).map s).toArray = #[s 0,s 1,s 2,s 3,s 4,s 5,s 6,s 7,s 8,s 9,s 10,s 11,s 12,s 13,s 14,s 15,s 16,s 17,s 18,s 19,s 20,s 21,s 22,s 23,s 24,s 25,s 26,s 27,s 28,s 29,s 30,s 31,s 32,s 33,s 34,s 35,s 36,s 37,s 38,s 39,s 40,s 41,s 42,s 43,s 44,s 45,s 46,s 47,s 48,s 49,s 50,s 51,s 52,s 53,s 54,s 55,s 56,s 57,s 58,s 59,s 60,s 61,s 62,s 63,s 64,s 65,s 66,s 67,s 68,s 69,s 70,s 71,s 72,s 73,s 74,s 75,s 76,s 77,s 78,s 79,s 80,s 81]:=rfl
noncomputable def sm6_code:Code:=((Tryz.f59.body.bind (fromReg 6)).getD .skip)
noncomputable def sm12_code:Code:=((Tryz.f59.body.bind (fromReg 12)).getD .skip)
noncomputable def sm14_code:Code:=((Tryz.f59.body.bind (fromReg 14)).getD .skip)
noncomputable def sm16_code:Code:=((Tryz.f59.body.bind (fromReg 16)).getD .skip)
theorem zut {w W:World} {s:Rep.St} {k:Rep.Bk} {g:Nat} {R:Ending→World→Prop} (S:SmS w W s g k) (hR:∀ (e:Ending) (w':World),e = .returned (.tuple #[.agg (k).row, .agg (s).row])∧Bel w w'→R e w') (a:Act) (ha:Fr 82 [(4, .pointer (some ⟨w.heap.size,0,none⟩)),(8, .pointer (some ⟨w.heap.size+1,0,none⟩)),(9, .pointer (some ⟨w.heap.size+1+1,0,none⟩)),(10, .pointer (some ⟨g,0,none⟩))] a):firstWp Tryz.prog sm16_code (bodyPost Tryz.prog Tryz.f59 R) a W:=by
 obtain ⟨s_,rfl,e4,e8,e9,e10,_⟩:=ha
 rw [r82,e4,e8,e9,e10]
 clear e4 e8 e9 e10
 refine zau ?_
 intro _ _
 refine wp_region_held_drew (S:=fun w'=>Blk w' g 62 (Kl k).toArray∧Blk w' w.heap.size 44 (Sl s).toArray∧Bel w w') (by kernel_rfl) ⟨Blk.dr S.bk,Blk.dr S.b0,Bel.drew S.u⟩ (fun qH => ?_)
 have B1:=Blk.dr S.b1
 have B2:=Blk.dr S.b2
 have hg:=S.hg
 clear S
 generalize W.drew=X at *
 refine tk1 (i:=0) (v := .agg (Kl k).toArray) rfl (zap rfl 62 (.tmp 10) rfl (g) 0 rfl 62 (Kl k) (fun w h=>h.1) 7 _ Tryz.underlying62 zbg (Nat.le_refl 7) _ rfl rfl) qH ?_
 try simp only [ss9]
 refine tk1 (i:=1) (v := .agg (Sl s).toArray) rfl (zap rfl 44 (.tmp 4) rfl (w.heap.size) 0 rfl 44 (Sl s) (fun w h=>h.2.1) 8 _ Tryz.underlying44 zbf (Nat.le_refl 8) _ rfl rfl) qH ?_
 try simp only [ss9]
 refine wpAnyH_ready (rs:=[2]) (by kernel_rfl) (by simp) ?_
 refine AllReadyH.cons (o:=_) rfl (fun K hK => ?_) AllReadyH.nil
 refine zan rfl 62 (.tmp 8) (.tmp 80) rfl (w.heap.size+1) 0 rfl 62 (Kl Rep.Bk.zero) B1 (Kl k) rfl zbg (Nat.le_refl 7) rfl (Kl k) rfl ?_
 intro WH BH OH
 replace B2:=OH.blk B2 (by omega)
 refine hK.out _ _ ⟨OH.blk qH.1 (by omega),OH.blk qH.2.1 (by omega),OH.bel qH.2.2 (by omega)⟩ (fun qH => ?_)
 clear hK K
 try simp only [ss9]
 refine wpAnyH_ready (rs:=[3]) (by kernel_rfl) (by simp) ?_
 refine AllReadyH.cons (o:=_) rfl (fun K hK => ?_) AllReadyH.nil
 refine zan rfl 44 (.tmp 9) (.tmp 81) rfl (w.heap.size+1+1) 0 rfl 44 (Sl Rep.St.zero) B2 (Sl s) rfl zbf (Nat.le_refl 8) rfl (Sl s) rfl ?_
 intro WI BS OI
 have BK:=OI.blk BH (by omega)
 refine hK.out _ _ ⟨OI.blk qH.1 (by omega),OI.blk qH.2.1 (by omega),OI.bel qH.2.2 (by omega)⟩ (fun qH => ?_)
 clear hK K
 try simp only [ss9]
 refine wpAnyH_done (by kernel_rfl) ?_ _
 go_wp2_with fail
 exact bodyPost_ret (v := .tuple #[.agg k.row, .agg s.row]) (zgq Tryz.results59 rfl (run_loadVar_row (P:=Tryz.prog) _ _ _ _ _ _ _ BK Tryz.underlying62 rfl (by kernel_rfl)) rfl (run_loadVar_row (P:=Tryz.prog) _ _ _ _ _ _ _ BS Tryz.underlying44 rfl (by kernel_rfl))) rfl (hR _ _ ⟨rfl,qH.2.2⟩)
theorem zjz {w W:World} {s:Rep.St} {k:Rep.Bk} {g:Nat} {R:Ending→World→Prop} (S:SmS w W s g k) (hR:∀ (e:Ending) (w':World),e = .returned (.tuple #[.agg (k).row, .agg (({ s with wexp:=(s.high-s.base+1),wrec:=s.got } : Rep.St)).row])∧Bel w w'→R e w') (a:Act) (ha:Fr 82 [(4, .pointer (some ⟨w.heap.size,0,none⟩)),(8, .pointer (some ⟨w.heap.size+1,0,none⟩)),(9, .pointer (some ⟨w.heap.size+1+1,0,none⟩)),(10, .pointer (some ⟨g,0,none⟩)),(11, .int .i64 (s.high-s.base+1))] a):firstWp Tryz.prog sm14_code (bodyPost Tryz.prog Tryz.f59 R) a W:=by
 obtain ⟨s_,rfl,e4,e8,e9,e10,e11,_⟩:=ha
 rw [r82,e4,e8,e9,e10,e11]
 clear e4 e8 e9 e10 e11
 refine zau ?_
 intro _ _
 have f3:W.cell? ⟨w.heap.size,3,none⟩=some (.int .i64 s.got):=S.b0.at 3 _ rfl
 have f4:W.cell? ⟨w.heap.size,4,none⟩=some (.int .i64 s.wexp):=S.b0.at 4 _ rfl
 have f5:W.cell? ⟨w.heap.size,5,none⟩=some (.int .i64 s.wrec):=S.b0.at 5 _ rfl
 have fz:=S.b0.frozen
 go_upto_region 16 with fail
 clear f3 f4 f5 fz
 have S2:=(S.setS 4 (.int .i64 (s.high-s.base+1)) { s with wexp:=(s.high-s.base+1) }).setS 5 (.int .i64 s.got) ({ s with wexp:=(s.high-s.base+1),wrec:=s.got } : Rep.St)
 generalize (W.setCell _ _).setCell _ _=W2 at S2 ⊢
 refine zas (by assumption) ?_
 exact zut S2 hR _ (Fr.mk rfl ⟨rfl,rfl,rfl,rfl,trivial⟩)
theorem zuu {w W:World} {s:Rep.St} {k:Rep.Bk} {g:Nat} {R:Ending→World→Prop} (S:SmS w W s g k) (ho:Rep.okS ⟨s.seen,s.base,s.high,s.got,s.wexp,s.wrec,s.trans,s.jit⟩=true) (hk:k.frac=0) (hR:∀ (e:Ending) (w':World),e = .returned (.tuple #[.agg (({ k with frac:=Rep.frac ((s.high-s.base+1)-s.wexp) ((s.high-s.base+1)-s.wexp-(s.got-s.wrec)) } : Rep.Bk)).row, .agg (({ s with wexp:=(s.high-s.base+1),wrec:=s.got } : Rep.St)).row])∧Bel w w'→R e w') (a:Act) (ha:Fr 82 [(4, .pointer (some ⟨w.heap.size,0,none⟩)),(8, .pointer (some ⟨w.heap.size+1,0,none⟩)),(9, .pointer (some ⟨w.heap.size+1+1,0,none⟩)),(10, .pointer (some ⟨g,0,none⟩)),(11, .int .i64 (s.high-s.base+1)),(12, .int .i64 ((s.high-s.base+1)-s.wexp)),(13, .int .i64 ((s.high-s.base+1)-s.wexp-(s.got-s.wrec)))] a):firstWp Tryz.prog sm12_code (bodyPost Tryz.prog Tryz.f59 R) a W:=by
 obtain ⟨s_,rfl,e4,e8,e9,e10,e11,e12,e13,_⟩:=ha
 rw [r82,e4,e8,e9,e10,e11,e12,e13]
 clear e4 e8 e9 e10 e11 e12 e13
 obtain ⟨c1,c2,c3,c4,c5,c6,c7,c8,c9,c10,c11,c12,c13,c14,c15⟩:=Rep.okS_bd _ _ _ _ _ _ _ _ ho
 have hR2:=H9 hR
 clear hR
 refine zay ?_
 intro _ _ _ _
 obtain ⟨x,hx⟩:∃ x,x=((s.high-s.base+1)-s.wexp):=⟨_,rfl⟩
 rw [← hx] at hR2 ⊢
 obtain ⟨y,hy⟩:∃ y,y=x-(s.got-s.wrec):=⟨_,rfl⟩
 rw [← hy] at hR2 ⊢
 have hyb:y≤9000000000000000:=by omega
 have hxb:x≤9000000000000000:=by omega
 have HX:=H9 (And.intro hx hy)
 clear hx hy c1 c2 c3 c4 c5 c6 c7 c8 c9 c10 c11 c12 c13 c14 c15
 by_cases h1:0<x
 · by_cases h2:0<y
   · have t1:decide (0<x)=true:=by simpa using h1
     have t2:decide (0<y)=true:=by simpa using h2
     obtain ⟨D,hD⟩:∃ D,256*y / x=D:=⟨_,rfl⟩
     have d0:0≤D:=by rw [← hD];exact Int.ediv_nonneg (by omega) (by omega)
     have hf:Rep.frac x y=min D 255:=by unfold Rep.frac;rw [if_pos ⟨h1,h2⟩,hD]
     rw [hf] at hR2
     clear hf
     have k1:W.cell? ⟨g,1,none⟩=some (.int .u8 k.frac):=S.bk.at 1 _ rfl
     have kz:=S.bk.frozen
     have g01:w.heap.size≠g:=by have:=S.hg;omega
     have g10:g≠w.heap.size:=fun e=>g01 e.symm
     go_upto_region 14 with fail
     clear k1 kz
     have S2:=S.setK 1 (.int .u8 (min D 255)) { k with frac:=min D 255 }
     generalize W.setCell _ _=W2 at S2 ⊢
     refine zas (by assumption) ?_
     exact zjz S2 hR2.out _ (Fr.mk rfl ⟨rfl,rfl,rfl,rfl,rfl,trivial⟩)
   · have hf:Rep.frac x y=0:=by unfold Rep.frac;rw [if_neg (by omega)]
     rw [hf,← hk] at hR2
     clear hf
     have t1:decide (0<x)=true:=by simpa using h1
     have t2:decide (0<y)=false:=by simpa using h2
     go_upto_region 14 with fail
     refine zas (by assumption) ?_
     exact zjz S hR2.out _ (Fr.mk rfl ⟨rfl,rfl,rfl,rfl,rfl,trivial⟩)
 · have hf:Rep.frac x y=0:=by unfold Rep.frac;rw [if_neg (by omega)]
   rw [hf,← hk] at hR2
   clear hf
   have t1:decide (0<x)=false:=by simpa using h1
   go_upto_region 14 with fail
   refine zas (by assumption) ?_
   exact zjz S hR2.out _ (Fr.mk rfl ⟨rfl,rfl,rfl,rfl,rfl,trivial⟩)
theorem zwo {w W:World} {s:Rep.St} {k:Rep.Bk} {g:Nat} {R:Ending→World→Prop} (S:SmS w W s g k) (ho:Rep.okS ⟨s.seen,s.base,s.high,s.got,s.wexp,s.wrec,s.trans,s.jit⟩=true) (hk:k.frac=0) (hR:∀ (e:Ending) (w':World),e = .returned (.tuple #[.agg (({ k with frac:=Rep.frac ((s.high-s.base+1)-s.wexp) ((s.high-s.base+1)-s.wexp-(s.got-s.wrec)),lost:=min (max ((s.high-s.base+1)-s.got) (-8388608)) 8388607,high:=s.high % 4294967296,jit:=min (s.jit / 16) 4294967295 } : Rep.Bk)).row, .agg (({ s with wexp:=(s.high-s.base+1),wrec:=s.got } : Rep.St)).row])∧Bel w w'→R e w') (a:Act) (ha:Fr 82 [(4, .pointer (some ⟨w.heap.size,0,none⟩)),(8, .pointer (some ⟨w.heap.size+1,0,none⟩)),(9, .pointer (some ⟨w.heap.size+1+1,0,none⟩)),(10, .pointer (some ⟨g,0,none⟩))] a):firstWp Tryz.prog sm6_code (bodyPost Tryz.prog Tryz.f59 R) a W:=by
 obtain ⟨s_,rfl,e4,e8,e9,e10,_⟩:=ha
 rw [r82,e4,e8,e9,e10]
 clear e4 e8 e9 e10
 obtain ⟨c1,c2,c3,c4,c5,c6,c7,c8,c9,c10,c11,c12,c13,c14,c15⟩:=Rep.okS_bd _ _ _ _ _ _ _ _ ho
 refine zau ?_
 intro _ _
 have f1:W.cell? ⟨w.heap.size,1,none⟩=some (.int .i64 s.base):=S.b0.at 1 _ rfl
 have f2:W.cell? ⟨w.heap.size,2,none⟩=some (.int .i64 s.high):=S.b0.at 2 _ rfl
 have f3:W.cell? ⟨w.heap.size,3,none⟩=some (.int .i64 s.got):=S.b0.at 3 _ rfl
 have f4:W.cell? ⟨w.heap.size,4,none⟩=some (.int .i64 s.wexp):=S.b0.at 4 _ rfl
 have f5:W.cell? ⟨w.heap.size,5,none⟩=some (.int .i64 s.wrec):=S.b0.at 5 _ rfl
 have f7:W.cell? ⟨w.heap.size,7,none⟩=some (.int .i64 s.jit):=S.b0.at 7 _ rfl
 have k2:W.cell? ⟨g,2,none⟩=some (.int .i64 k.lost):=S.bk.at 2 _ rfl
 have k3:W.cell? ⟨g,3,none⟩=some (.int .u32 k.high):=S.bk.at 3 _ rfl
 have k4:W.cell? ⟨g,4,none⟩=some (.int .u32 k.jit):=S.bk.at 4 _ rfl
 have kz:=S.bk.frozen
 have g01:w.heap.size≠g:=by have:=S.hg;omega
 have g10:g≠w.heap.size:=fun e=>g01 e.symm
 go_upto_region 12 with fail
 clear f1 f2 f3 f4 f5 f7 k2 k3 k4 kz
 have S2:=((S.setK 2 (.int .i64 (min (max ((s.high-s.base+1)-s.got) (-8388608)) 8388607)) { k with lost:=min (max ((s.high-s.base+1)-s.got) (-8388608)) 8388607 }).setK 3 (.int .u32 (s.high % 4294967296)) { k with lost:=min (max ((s.high-s.base+1)-s.got) (-8388608)) 8388607,high:=s.high % 4294967296 }).setK 4 (.int .u32 (min (s.jit / 16) 4294967295)) ({ k with lost:=min (max ((s.high-s.base+1)-s.got) (-8388608)) 8388607,high:=s.high % 4294967296,jit:=min (s.jit / 16) 4294967295 } : Rep.Bk)
 generalize ((W.setCell _ _).setCell _ _).setCell _ _=W2 at S2 ⊢
 refine zbk (by assumption) (by assumption) ?_
 exact zuu S2 ho hk hR _ (Fr.mk rfl ⟨rfl,rfl,rfl,rfl,rfl,rfl,rfl,trivial⟩)
theorem sm0 (s:Rep.St) (w:World) (so la de:Int):Calls Tryz.prog 59 #[.agg s.row, .int .u32 so, .int .u32 la, .int .u32 de] w fun e w'=>e = .returned (.tuple #[.agg (Rep.summary s so la de).1.row, .agg (Rep.summary s so la de).2.row])∧Below w.heap.size w w':=by
 have S:SmB w (((w.alloc (.cells s.row 44)).alloc (.cells (Kl Rep.Bk.zero).toArray 62)).alloc (.cells (Sl Rep.St.zero).toArray 44)) s:=⟨((Blk.new w _ _).push _).push _,(Blk.new1 _ _ _ _).push _,Blk.new2 _ _ _ _ _,(((Bel.refl w).push _).push _).push _⟩
 have K0:=H9 fun W=>zir s.seen s.base s.high s.got s.wexp s.wrec s.trans s.jit W
 obtain ⟨ok,hok⟩:∃ ok,ok=Rep.okS s:=⟨_,rfl⟩
 obtain ⟨on,hon⟩:∃ on,on=s.seen:=⟨_,rfl⟩
 have HS:Rep.summary s so la de=if ok=false then (Rep.Bk.zero,Rep.St.zero) else if on=false then (⟨so,0,0,0,0,la,de⟩,s) else (({ (⟨so,0,0,0,0,la,de⟩:Rep.Bk) with frac:=Rep.frac ((s.high-s.base+1)-s.wexp) ((s.high-s.base+1)-s.wexp-(s.got-s.wrec)),lost:=min (max ((s.high-s.base+1)-s.got) (-8388608)) 8388607,high:=s.high % 4294967296,jit:=min (s.jit / 16) 4294967295 } : Rep.Bk),({ s with wexp:=(s.high-s.base+1),wrec:=s.got } : Rep.St)):=by rw [hok,hon];rfl
 have hok2:Rep.okS ⟨s.seen,s.base,s.high,s.got,s.wexp,s.wrec,s.trans,s.jit⟩=ok:=hok.symm
 rw [hok2] at K0
 have HOK:=H9 hok2
 have HON:=H9 hon
 clear hok hok2 hon
 obtain ⟨R,hRR⟩:∃ R:Ending→World→Prop,R=fun e w'=>e = .returned (.tuple #[.agg (Rep.summary s so la de).1.row, .agg (Rep.summary s so la de).2.row])∧Below w.heap.size w w':=⟨_,rfl⟩
 rw [← hRR]
 have hR:∀ e w',e = .returned (.tuple #[.agg (Rep.summary s so la de).1.row, .agg (Rep.summary s so la de).2.row])∧Bel w w'→R e w':=fun e w' h=>by rw [hRR];exact h
 clear hRR
 rw [HS] at hR
 have HR2:=H9 hR
 clear hR HS
 go_enter Tryz.func59,Tryz.ntmps59
 go_upto_region 1 with fail
 change Code.wp _ _ _ _ (((w.alloc (.cells s.row 44)).alloc (.cells (Kl Rep.Bk.zero).toArray 62)).alloc (.cells (Sl Rep.St.zero).toArray 44))
 generalize ((w.alloc _).alloc _).alloc _=W0 at S ⊢
 go_wp2_with (first|(refine zab rfl 44 (.tmp 4) rfl (w.heap.size) 0 rfl 44 (Sl s) S.b0 8 _ Tryz.underlying44 zbf (show 0+8≤8 by decide) s.row (by rfl) rfl ?_)|fail)
 refine (K0.out _).mono ?_
 rintro e w1 ⟨rfl,hb1⟩
 replace S:=S.later hb1
 clear hb1 K0
 cases ok
 · go_wp2_with (first|(refine zac rfl 62 (.tmp 8) (.tmp 17) rfl (w.heap.size+1) 0 rfl 62 (Kl Rep.Bk.zero) S.b1 (Kl Rep.Bk.zero) rfl zbg (show 0+7≤7 by decide) rfl (Kl Rep.Bk.zero) rfl ?_;intro WB BB OB)|(refine zac rfl 44 (.tmp 9) (.tmp 18) rfl (w.heap.size+1+1) 0 rfl 44 (Sl Rep.St.zero) (OB.blk S.b2 (by omega)) (Sl Rep.St.zero) rfl zbf (show 0+8≤8 by decide) rfl (Sl Rep.St.zero) rfl ?_;intro WC BC OC)|fail)
   exact bodyPost_ret (v := .tuple #[.agg Rep.Bk.zero.row, .agg Rep.St.zero.row]) (zgq Tryz.results59 rfl (run_loadVar_row (P:=Tryz.prog) _ _ _ _ _ _ _ (OC.blk BB (by omega)) Tryz.underlying62 rfl (by kernel_rfl)) rfl (run_loadVar_row (P:=Tryz.prog) _ _ _ _ _ _ _ BC Tryz.underlying44 rfl (by kernel_rfl))) rfl (HR2.out _ _ ⟨rfl,OC.bel (OB.bel S.u (by omega)) (by omega)⟩)
 have BK0:Blk (w1.alloc (Obj.cells (Kl Rep.Bk.zero).toArray 62)) w1.heap.size 62 (Kl Rep.Bk.zero).toArray:=Blk.new _ _ _
 have hg:=S.b2.lt
 go_upto_region 4 with (first|(refine zac rfl 62 (.tmp 10) (.tmp 22) rfl (w1.heap.size) 0 rfl 62 (Kl Rep.Bk.zero) BK0 (Kl ⟨so,0,0,0,0,la,de⟩) rfl zbg (show 0+7≤7 by decide) rfl (Kl ⟨so,0,0,0,0,la,de⟩) rfl ?_;intro WB BB OB)|fail)
 have S2:SmS w WB s w1.heap.size ⟨so,0,0,0,0,la,de⟩:=⟨OB.blk (S.b0.push _) (by omega),OB.blk (S.b1.push _) (by omega),OB.blk (S.b2.push _) (by omega),BB,OB.bel (S.u.push _) (by omega),hg⟩
 clear S BB OB BK0 hg
 generalize w1.heap.size=g at *
 have S:=S2
 clear S2
 have f0:WB.cell? ⟨w.heap.size,0,none⟩=some (.bool on):=by rw [HON.out];exact S.b0.at 0 _ rfl
 cases on
 · go_upto_region 5 with fail
   have hR:=HR2.out
   clear HR2 f0
   obtain ⟨k,hk⟩:∃ k:Rep.Bk,k=⟨so,0,0,0,0,la,de⟩:=⟨_,rfl⟩
   rw [← hk] at S
   have hR3:∀ e w',e = .returned (.tuple #[.agg k.row, .agg s.row])∧Bel w w'→R e w':=by rw [hk];exact hR
   clear hR hk
   have hR:=hR3
   clear hR3
   refine wp_region_held_drew (S:=fun w'=>Blk w' g 62 (Kl k).toArray∧Blk w' w.heap.size 44 (Sl s).toArray∧Bel w w') (by kernel_rfl) ⟨Blk.dr S.bk,Blk.dr S.b0,Bel.drew S.u⟩ (fun qH => ?_)
   have B1:=Blk.dr S.b1
   have B2:=Blk.dr S.b2
   have hg:=S.hg
   clear S
   generalize WB.drew=X at *
   refine tk1 (i:=0) (v := .agg (Kl k).toArray) rfl (zap rfl 62 (.tmp 10) rfl (g) 0 rfl 62 (Kl k) (fun w h=>h.1) 7 _ Tryz.underlying62 zbg (Nat.le_refl 7) _ rfl rfl) qH ?_
   try simp only [ss9]
   refine tk1 (i:=1) (v := .agg (Sl s).toArray) rfl (zap rfl 44 (.tmp 4) rfl (w.heap.size) 0 rfl 44 (Sl s) (fun w h=>h.2.1) 8 _ Tryz.underlying44 zbf (Nat.le_refl 8) _ rfl rfl) qH ?_
   try simp only [ss9]
   refine wpAnyH_ready (rs:=[2]) (by kernel_rfl) (by simp) ?_
   refine AllReadyH.cons (o:=_) rfl (fun K hK => ?_) AllReadyH.nil
   refine zan rfl 62 (.tmp 8) (.tmp 26) rfl (w.heap.size+1) 0 rfl 62 (Kl Rep.Bk.zero) B1 (Kl k) rfl zbg (Nat.le_refl 7) rfl (Kl k) rfl ?_
   intro WH BH OH
   replace B2:=OH.blk B2 (by omega)
   refine hK.out _ _ ⟨OH.blk qH.1 (by omega),OH.blk qH.2.1 (by omega),OH.bel qH.2.2 (by omega)⟩ (fun qH => ?_)
   clear hK K
   try simp only [ss9]
   refine wpAnyH_ready (rs:=[3]) (by kernel_rfl) (by simp) ?_
   refine AllReadyH.cons (o:=_) rfl (fun K hK => ?_) AllReadyH.nil
   refine zan rfl 44 (.tmp 9) (.tmp 27) rfl (w.heap.size+1+1) 0 rfl 44 (Sl Rep.St.zero) B2 (Sl s) rfl zbf (Nat.le_refl 8) rfl (Sl s) rfl ?_
   intro WI BS OI
   have BK:=OI.blk BH (by omega)
   refine hK.out _ _ ⟨OI.blk qH.1 (by omega),OI.blk qH.2.1 (by omega),OI.bel qH.2.2 (by omega)⟩ (fun qH => ?_)
   clear hK K
   try simp only [ss9]
   refine wpAnyH_done (by kernel_rfl) ?_ _
   go_wp2_with fail
   exact bodyPost_ret (v := .tuple #[.agg k.row, .agg s.row]) (zgq Tryz.results59 rfl (run_loadVar_row (P:=Tryz.prog) _ _ _ _ _ _ _ BK Tryz.underlying62 rfl (by kernel_rfl)) rfl (run_loadVar_row (P:=Tryz.prog) _ _ _ _ _ _ _ BS Tryz.underlying44 rfl (by kernel_rfl))) rfl (hR _ _ ⟨rfl,qH.2.2⟩)
 · go_upto_region 6 with fail
   refine zas (by assumption) ?_
   exact zwo S HOK.out rfl (by have hR:=HR2.out;rw [if_neg (by decide),if_neg (by decide)] at hR;exact hR) _ (Fr.mk rfl ⟨rfl,rfl,rfl,rfl,trivial⟩)
theorem zka (s0:Bool) (sb sh sr sx sy st sj:Int) (w:World) (so la de:Int):Calls Tryz.prog 59 #[.agg #[.bool s0, .int .i64 sb, .int .i64 sh, .int .i64 sr, .int .i64 sx, .int .i64 sy, .int .i64 st, .int .i64 sj], .int .u32 so, .int .u32 la, .int .u32 de] w fun e w'=>e = .returned (.tuple #[.agg (Rep.summary ⟨s0,sb,sh,sr,sx,sy,st,sj⟩ so la de).1.row, .agg (Rep.summary ⟨s0,sb,sh,sr,sx,sy,st,sj⟩ so la de).2.row])∧Below w.heap.size w w':=sm0 ⟨s0,sb,sh,sr,sx,sy,st,sj⟩ w so la de
theorem r89 (s:Nat→Value):((List.range 89).map s).toArray = #[s 0,s 1,s 2,s 3,s 4,s 5,s 6,s 7,s 8,s 9,s 10,s 11,s 12,s 13,s 14,s 15,s 16,s 17,s 18,s 19,s 20,s 21,s 22,s 23,s 24,s 25,s 26,s 27,s 28,s 29,s 30,s 31,s 32,s 33,s 34,s 35,s 36,s 37,s 38,s 39,s 40,s 41,s 42,s 43,s 44,s 45,s 46,s 47,s 48,s 49,s 50,s 51,s 52,s 53,s 54,s 55,s 56,s 57,s 58,s 59,s 60,s 61,s 62,s 63,s 64,s 65,s 66,s 67,s 68,s 69,s 70,s 71,s 72,s 73,s 74,s 75,s 76,s 77,s 78,s 79,s 80,s 81,s 82,s 83,s 84,s 85,s 86,s 87,s 88]:=rfl
noncomputable def rsm6_code:Code:=((Tryz.f61.body.bind (fromReg 6)).getD .skip)
noncomputable def rsm12_code:Code:=((Tryz.f61.body.bind (fromReg 12)).getD .skip)
noncomputable def rsm17_code:Code:=((Tryz.f61.body.bind (fromReg 17)).getD .skip)
noncomputable def rsm19_code:Code:=((Tryz.f61.body.bind (fromReg 19)).getD .skip)
noncomputable def rsm21_code:Code:=((Tryz.f61.body.bind (fromReg 21)).getD .skip)
theorem zsf {w W:World} {s:Rep.St} {k:Rep.Bk} {g:Nat} {R:Ending→World→Prop} (S:SmS w W s g k) (hR:∀ (e:Ending) (w':World),e = .returned (.tuple #[.agg (k).row, .agg (s).row])∧Bel w w'→R e w') (a:Act) (ha:Fr 89 [(4, .pointer (some ⟨w.heap.size,0,none⟩)),(8, .pointer (some ⟨w.heap.size+1,0,none⟩)),(9, .pointer (some ⟨w.heap.size+1+1,0,none⟩)),(10, .pointer (some ⟨g,0,none⟩))] a):firstWp Tryz.prog rsm21_code (bodyPost Tryz.prog Tryz.f61 R) a W:=by
 obtain ⟨s_,rfl,e4,e8,e9,e10,_⟩:=ha
 rw [r89,e4,e8,e9,e10]
 clear e4 e8 e9 e10
 refine zau ?_
 intro _ _
 refine wp_region_held_drew (S:=fun w'=>Blk w' g 62 (Kl k).toArray∧Blk w' w.heap.size 44 (Sl s).toArray∧Bel w w') (by kernel_rfl) ⟨Blk.dr S.bk,Blk.dr S.b0,Bel.drew S.u⟩ (fun qH => ?_)
 have B1:=Blk.dr S.b1
 have B2:=Blk.dr S.b2
 have hg:=S.hg
 clear S
 generalize W.drew=X at *
 refine tk1 (i:=0) (v := .agg (Kl k).toArray) rfl (zap rfl 62 (.tmp 10) rfl (g) 0 rfl 62 (Kl k) (fun w h=>h.1) 7 _ Tryz.underlying62 zbg (Nat.le_refl 7) _ rfl rfl) qH ?_
 try simp only [ss9]
 refine tk1 (i:=1) (v := .agg (Sl s).toArray) rfl (zap rfl 44 (.tmp 4) rfl (w.heap.size) 0 rfl 44 (Sl s) (fun w h=>h.2.1) 8 _ Tryz.underlying44 zbf (Nat.le_refl 8) _ rfl rfl) qH ?_
 try simp only [ss9]
 refine wpAnyH_ready (rs:=[2]) (by kernel_rfl) (by simp) ?_
 refine AllReadyH.cons (o:=_) rfl (fun K hK => ?_) AllReadyH.nil
 refine zan rfl 62 (.tmp 8) (.tmp 87) rfl (w.heap.size+1) 0 rfl 62 (Kl Rep.Bk.zero) B1 (Kl k) rfl zbg (Nat.le_refl 7) rfl (Kl k) rfl ?_
 intro WH BH OH
 replace B2:=OH.blk B2 (by omega)
 refine hK.out _ _ ⟨OH.blk qH.1 (by omega),OH.blk qH.2.1 (by omega),OH.bel qH.2.2 (by omega)⟩ (fun qH => ?_)
 clear hK K
 try simp only [ss9]
 refine wpAnyH_ready (rs:=[3]) (by kernel_rfl) (by simp) ?_
 refine AllReadyH.cons (o:=_) rfl (fun K hK => ?_) AllReadyH.nil
 refine zan rfl 44 (.tmp 9) (.tmp 88) rfl (w.heap.size+1+1) 0 rfl 44 (Sl Rep.St.zero) B2 (Sl s) rfl zbf (Nat.le_refl 8) rfl (Sl s) rfl ?_
 intro WI BS OI
 have BK:=OI.blk BH (by omega)
 refine hK.out _ _ ⟨OI.blk qH.1 (by omega),OI.blk qH.2.1 (by omega),OI.bel qH.2.2 (by omega)⟩ (fun qH => ?_)
 clear hK K
 try simp only [ss9]
 refine wpAnyH_done (by kernel_rfl) ?_ _
 go_wp2_with fail
 exact bodyPost_ret (v := .tuple #[.agg k.row, .agg s.row]) (zgq Tryz.results61 rfl (run_loadVar_row (P:=Tryz.prog) _ _ _ _ _ _ _ BK Tryz.underlying62 rfl (by kernel_rfl)) rfl (run_loadVar_row (P:=Tryz.prog) _ _ _ _ _ _ _ BS Tryz.underlying44 rfl (by kernel_rfl))) rfl (hR _ _ ⟨rfl,qH.2.2⟩)
theorem zhr {w W:World} {s:Rep.St} {k:Rep.Bk} {g:Nat} {R:Ending→World→Prop} (S:SmS w W s g k) (hR:∀ (e:Ending) (w':World),e = .returned (.tuple #[.agg (k).row, .agg (({ s with wexp:=(s.high-s.base+1),wrec:=s.got } : Rep.St)).row])∧Bel w w'→R e w') (a:Act) (ha:Fr 89 [(4, .pointer (some ⟨w.heap.size,0,none⟩)),(8, .pointer (some ⟨w.heap.size+1,0,none⟩)),(9, .pointer (some ⟨w.heap.size+1+1,0,none⟩)),(10, .pointer (some ⟨g,0,none⟩)),(11, .int .i64 (s.high-s.base+1))] a):firstWp Tryz.prog rsm19_code (bodyPost Tryz.prog Tryz.f61 R) a W:=by
 obtain ⟨s_,rfl,e4,e8,e9,e10,e11,_⟩:=ha
 rw [r89,e4,e8,e9,e10,e11]
 clear e4 e8 e9 e10 e11
 refine zau ?_
 intro _ _
 have f3:W.cell? ⟨w.heap.size,3,none⟩=some (.int .i64 s.got):=S.b0.at 3 _ rfl
 have f4:W.cell? ⟨w.heap.size,4,none⟩=some (.int .i64 s.wexp):=S.b0.at 4 _ rfl
 have f5:W.cell? ⟨w.heap.size,5,none⟩=some (.int .i64 s.wrec):=S.b0.at 5 _ rfl
 have fz:=S.b0.frozen
 go_upto_region 21 with fail
 clear f3 f4 f5 fz
 have S2:=(S.setS 4 (.int .i64 (s.high-s.base+1)) { s with wexp:=(s.high-s.base+1) }).setS 5 (.int .i64 s.got) ({ s with wexp:=(s.high-s.base+1),wrec:=s.got } : Rep.St)
 generalize (W.setCell _ _).setCell _ _=W2 at S2 ⊢
 refine zas (by assumption) ?_
 exact zsf S2 hR _ (Fr.mk rfl ⟨rfl,rfl,rfl,rfl,trivial⟩)
theorem zsg {w W:World} {s:Rep.St} {k:Rep.Bk} {g:Nat} {R:Ending→World→Prop} (S:SmS w W s g k) (ho:Rep.okS ⟨s.seen,s.base,s.high,s.got,s.wexp,s.wrec,s.trans,s.jit⟩=true) (hk:k.frac=0) (hR:∀ (e:Ending) (w':World),e = .returned (.tuple #[.agg (({ k with frac:=Rep.frac ((s.high-s.base+1)-s.wexp) ((s.high-s.base+1)-s.wexp-(s.got-s.wrec)) } : Rep.Bk)).row, .agg (({ s with wexp:=(s.high-s.base+1),wrec:=s.got } : Rep.St)).row])∧Bel w w'→R e w') (a:Act) (ha:Fr 89 [(4, .pointer (some ⟨w.heap.size,0,none⟩)),(8, .pointer (some ⟨w.heap.size+1,0,none⟩)),(9, .pointer (some ⟨w.heap.size+1+1,0,none⟩)),(10, .pointer (some ⟨g,0,none⟩)),(11, .int .i64 (s.high-s.base+1)),(13, .int .i64 ((s.high-s.base+1)-s.wexp)),(14, .int .i64 ((s.high-s.base+1)-s.wexp-(s.got-s.wrec)))] a):firstWp Tryz.prog rsm17_code (bodyPost Tryz.prog Tryz.f61 R) a W:=by
 obtain ⟨s_,rfl,e4,e8,e9,e10,e11,e13,e14,_⟩:=ha
 rw [r89,e4,e8,e9,e10,e11,e13,e14]
 clear e4 e8 e9 e10 e11 e13 e14
 obtain ⟨c1,c2,c3,c4,c5,c6,c7,c8,c9,c10,c11,c12,c13,c14,c15⟩:=Rep.okS_bd _ _ _ _ _ _ _ _ ho
 have hR2:=H9 hR
 clear hR
 refine zay ?_
 intro _ _ _ _
 obtain ⟨x,hx⟩:∃ x,x=((s.high-s.base+1)-s.wexp):=⟨_,rfl⟩
 rw [← hx] at hR2 ⊢
 obtain ⟨y,hy⟩:∃ y,y=x-(s.got-s.wrec):=⟨_,rfl⟩
 rw [← hy] at hR2 ⊢
 have hyb:y≤9000000000000000:=by omega
 have hxb:x≤9000000000000000:=by omega
 have HX:=H9 (And.intro hx hy)
 clear hx hy c1 c2 c3 c4 c5 c6 c7 c8 c9 c10 c11 c12 c13 c14 c15
 by_cases h1:0<x
 · by_cases h2:0<y
   · have t1:decide (0<x)=true:=by simpa using h1
     have t2:decide (0<y)=true:=by simpa using h2
     obtain ⟨D,hD⟩:∃ D,256*y / x=D:=⟨_,rfl⟩
     have d0:0≤D:=by rw [← hD];exact Int.ediv_nonneg (by omega) (by omega)
     have hf:Rep.frac x y=min D 255:=by unfold Rep.frac;rw [if_pos ⟨h1,h2⟩,hD]
     rw [hf] at hR2
     clear hf
     have k1:W.cell? ⟨g,1,none⟩=some (.int .u8 k.frac):=S.bk.at 1 _ rfl
     have kz:=S.bk.frozen
     have g01:w.heap.size≠g:=by have:=S.hg;omega
     have g10:g≠w.heap.size:=fun e=>g01 e.symm
     go_upto_region 19 with fail
     clear k1 kz
     have S2:=S.setK 1 (.int .u8 (min D 255)) { k with frac:=min D 255 }
     generalize W.setCell _ _=W2 at S2 ⊢
     refine zas (by assumption) ?_
     exact zhr S2 hR2.out _ (Fr.mk rfl ⟨rfl,rfl,rfl,rfl,rfl,trivial⟩)
   · have hf:Rep.frac x y=0:=by unfold Rep.frac;rw [if_neg (by omega)]
     rw [hf,← hk] at hR2
     clear hf
     have t1:decide (0<x)=true:=by simpa using h1
     have t2:decide (0<y)=false:=by simpa using h2
     go_upto_region 19 with fail
     refine zas (by assumption) ?_
     exact zhr S hR2.out _ (Fr.mk rfl ⟨rfl,rfl,rfl,rfl,rfl,trivial⟩)
 · have hf:Rep.frac x y=0:=by unfold Rep.frac;rw [if_neg (by omega)]
   rw [hf,← hk] at hR2
   clear hf
   have t1:decide (0<x)=false:=by simpa using h1
   go_upto_region 19 with fail
   refine zas (by assumption) ?_
   exact zhr S hR2.out _ (Fr.mk rfl ⟨rfl,rfl,rfl,rfl,rfl,trivial⟩)
theorem zhs {w W:World} {s:Rep.St} {k:Rep.Bk} {g:Nat} {R:Ending→World→Prop} {v:Int} (S:SmS w W s g k) (ho:Rep.okS ⟨s.seen,s.base,s.high,s.got,s.wexp,s.wrec,s.trans,s.jit⟩=true) (hk:k.frac=0) (hR:∀ (e:Ending) (w':World),e = .returned (.tuple #[.agg (({ k with frac:=Rep.frac ((s.high-s.base+1)-s.wexp) ((s.high-s.base+1)-s.wexp-(s.got-s.wrec)),lost:=v,high:=s.high % 4294967296,jit:=min (s.jit / 16) 4294967295 } : Rep.Bk)).row, .agg (({ s with wexp:=(s.high-s.base+1),wrec:=s.got } : Rep.St)).row])∧Bel w w'→R e w') (a:Act) (ha:Fr 89 [(4, .pointer (some ⟨w.heap.size,0,none⟩)),(8, .pointer (some ⟨w.heap.size+1,0,none⟩)),(9, .pointer (some ⟨w.heap.size+1+1,0,none⟩)),(10, .pointer (some ⟨g,0,none⟩)),(11, .int .i64 (s.high-s.base+1)),(12, .int .i64 v)] a):firstWp Tryz.prog rsm12_code (bodyPost Tryz.prog Tryz.f61 R) a W:=by
 obtain ⟨s_,rfl,e4,e8,e9,e10,e11,e12,_⟩:=ha
 rw [r89,e4,e8,e9,e10,e11,e12]
 clear e4 e8 e9 e10 e11 e12
 obtain ⟨c1,c2,c3,c4,c5,c6,c7,c8,c9,c10,c11,c12,c13,c14,c15⟩:=Rep.okS_bd _ _ _ _ _ _ _ _ ho
 refine zau ?_
 intro _ _
 have f2:W.cell? ⟨w.heap.size,2,none⟩=some (.int .i64 s.high):=S.b0.at 2 _ rfl
 have f3:W.cell? ⟨w.heap.size,3,none⟩=some (.int .i64 s.got):=S.b0.at 3 _ rfl
 have f4:W.cell? ⟨w.heap.size,4,none⟩=some (.int .i64 s.wexp):=S.b0.at 4 _ rfl
 have f5:W.cell? ⟨w.heap.size,5,none⟩=some (.int .i64 s.wrec):=S.b0.at 5 _ rfl
 have f7:W.cell? ⟨w.heap.size,7,none⟩=some (.int .i64 s.jit):=S.b0.at 7 _ rfl
 have k2:W.cell? ⟨g,2,none⟩=some (.int .i64 k.lost):=S.bk.at 2 _ rfl
 have k3:W.cell? ⟨g,3,none⟩=some (.int .u32 k.high):=S.bk.at 3 _ rfl
 have k4:W.cell? ⟨g,4,none⟩=some (.int .u32 k.jit):=S.bk.at 4 _ rfl
 have kz:=S.bk.frozen
 have g01:w.heap.size≠g:=by have:=S.hg;omega
 have g10:g≠w.heap.size:=fun e=>g01 e.symm
 go_upto_region 17 with fail
 clear f2 f3 f4 f5 f7 k2 k3 k4 kz
 try simp only [Rep.modl]
 have S2:=((S.setK 2 (.int .i64 v) { k with lost:=v }).setK 3 (.int .u32 (s.high % 4294967296)) { k with lost:=v,high:=s.high % 4294967296 }).setK 4 (.int .u32 (min (s.jit / 16) 4294967295)) ({ k with lost:=v,high:=s.high % 4294967296,jit:=min (s.jit / 16) 4294967295 } : Rep.Bk)
 generalize ((W.setCell _ _).setCell _ _).setCell _ _=W2 at S2 ⊢
 refine zbk (by assumption) (by assumption) ?_
 exact zsg S2 ho hk hR _ (Fr.mk rfl ⟨rfl,rfl,rfl,rfl,rfl,rfl,rfl,trivial⟩)
theorem zuv {w W:World} {s:Rep.St} {k:Rep.Bk} {g:Nat} {R:Ending→World→Prop} (S:SmS w W s g k) (ho:Rep.okS ⟨s.seen,s.base,s.high,s.got,s.wexp,s.wrec,s.trans,s.jit⟩=true) (hk:k.frac=0) (hR:∀ (e:Ending) (w':World),e = .returned (.tuple #[.agg (({ k with frac:=Rep.frac ((s.high-s.base+1)-s.wexp) ((s.high-s.base+1)-s.wexp-(s.got-s.wrec)),lost:=min (max ((s.high-s.base+1)-s.got) (-8388608)) 8388607,high:=s.high % 4294967296,jit:=min (s.jit / 16) 4294967295 } : Rep.Bk)).row, .agg (({ s with wexp:=(s.high-s.base+1),wrec:=s.got } : Rep.St)).row])∧Bel w w'→R e w') (a:Act) (ha:Fr 89 [(4, .pointer (some ⟨w.heap.size,0,none⟩)),(8, .pointer (some ⟨w.heap.size+1,0,none⟩)),(9, .pointer (some ⟨w.heap.size+1+1,0,none⟩)),(10, .pointer (some ⟨g,0,none⟩))] a):firstWp Tryz.prog rsm6_code (bodyPost Tryz.prog Tryz.f61 R) a W:=by
 obtain ⟨s_,rfl,e4,e8,e9,e10,_⟩:=ha
 rw [r89,e4,e8,e9,e10]
 clear e4 e8 e9 e10
 have HOK:=H9 ho
 have HRR:=H9 hR
 obtain ⟨c1,c2,c3,c4,c5,c6,c7,c8,c9,c10,c11,c12,c13,c14,c15⟩:=Rep.okS_bd _ _ _ _ _ _ _ _ ho
 clear hR ho
 refine zau ?_
 intro _ _
 have f1:W.cell? ⟨w.heap.size,1,none⟩=some (.int .i64 s.base):=S.b0.at 1 _ rfl
 have f2:W.cell? ⟨w.heap.size,2,none⟩=some (.int .i64 s.high):=S.b0.at 2 _ rfl
 have f3:W.cell? ⟨w.heap.size,3,none⟩=some (.int .i64 s.got):=S.b0.at 3 _ rfl
 obtain ⟨v,hv⟩:∃ v,v=(s.high-s.base+1)-s.got:=⟨_,rfl⟩
 by_cases l1:v < -8388608
 · rw [show min (max ((s.high-s.base+1)-s.got) (-8388608)) 8388607 = -8388608 by omega] at HRR
   have t1:decide ((s.high-s.base+1)-s.got < -8388608)=true:=by simp;omega
   go_upto_region 12 with fail
   refine zas (by assumption) ?_
   exact zhs S HOK.out hk HRR.out _ (Fr.mk rfl ⟨rfl,rfl,rfl,rfl,rfl,rfl,trivial⟩)
 · by_cases l2:8388607<v
   · rw [show min (max ((s.high-s.base+1)-s.got) (-8388608)) 8388607=8388607 by omega] at HRR
     have t1:decide ((s.high-s.base+1)-s.got < -8388608)=false:=by simp;omega
     have t2:decide (8388607<(s.high-s.base+1)-s.got)=true:=by simp;omega
     go_upto_region 12 with fail
     refine zas (by assumption) ?_
     exact zhs S HOK.out hk HRR.out _ (Fr.mk rfl ⟨rfl,rfl,rfl,rfl,rfl,rfl,trivial⟩)
   · rw [show min (max ((s.high-s.base+1)-s.got) (-8388608)) 8388607=(s.high-s.base+1)-s.got by omega] at HRR
     have t1:decide ((s.high-s.base+1)-s.got < -8388608)=false:=by simp;omega
     have t2:decide (8388607<(s.high-s.base+1)-s.got)=false:=by simp;omega
     go_upto_region 12 with fail
     refine zas (by assumption) ?_
     exact zhs S HOK.out hk HRR.out _ (Fr.mk rfl ⟨rfl,rfl,rfl,rfl,rfl,rfl,trivial⟩)
theorem rsm0 (s:Rep.St) (w:World) (so la de:Int):Calls Tryz.prog 61 #[.agg s.row, .int .u32 so, .int .u32 la, .int .u32 de] w fun e w'=>e = .returned (.tuple #[.agg (Rep.summary s so la de).1.row, .agg (Rep.summary s so la de).2.row])∧Below w.heap.size w w':=by
 have S:SmB w (((w.alloc (.cells s.row 44)).alloc (.cells (Kl Rep.Bk.zero).toArray 62)).alloc (.cells (Sl Rep.St.zero).toArray 44)) s:=⟨((Blk.new w _ _).push _).push _,(Blk.new1 _ _ _ _).push _,Blk.new2 _ _ _ _ _,(((Bel.refl w).push _).push _).push _⟩
 have K0:=H9 fun W=>zgs s.seen s.base s.high s.got s.wexp s.wrec s.trans s.jit W
 obtain ⟨ok,hok⟩:∃ ok,ok=Rep.okS s:=⟨_,rfl⟩
 obtain ⟨on,hon⟩:∃ on,on=s.seen:=⟨_,rfl⟩
 have HS:Rep.summary s so la de=if ok=false then (Rep.Bk.zero,Rep.St.zero) else if on=false then (⟨so,0,0,0,0,la,de⟩,s) else (({ (⟨so,0,0,0,0,la,de⟩:Rep.Bk) with frac:=Rep.frac ((s.high-s.base+1)-s.wexp) ((s.high-s.base+1)-s.wexp-(s.got-s.wrec)),lost:=min (max ((s.high-s.base+1)-s.got) (-8388608)) 8388607,high:=s.high % 4294967296,jit:=min (s.jit / 16) 4294967295 } : Rep.Bk),({ s with wexp:=(s.high-s.base+1),wrec:=s.got } : Rep.St)):=by rw [hok,hon];rfl
 have hok2:Rep.okS ⟨s.seen,s.base,s.high,s.got,s.wexp,s.wrec,s.trans,s.jit⟩=ok:=hok.symm
 rw [hok2] at K0
 have HOK:=H9 hok2
 have HON:=H9 hon
 clear hok hok2 hon
 obtain ⟨R,hRR⟩:∃ R:Ending→World→Prop,R=fun e w'=>e = .returned (.tuple #[.agg (Rep.summary s so la de).1.row, .agg (Rep.summary s so la de).2.row])∧Below w.heap.size w w':=⟨_,rfl⟩
 rw [← hRR]
 have hR:∀ e w',e = .returned (.tuple #[.agg (Rep.summary s so la de).1.row, .agg (Rep.summary s so la de).2.row])∧Bel w w'→R e w':=fun e w' h=>by rw [hRR];exact h
 clear hRR
 rw [HS] at hR
 have HR2:=H9 hR
 clear hR HS
 go_enter Tryz.func61,Tryz.ntmps61
 go_upto_region 1 with fail
 change Code.wp _ _ _ _ (((w.alloc (.cells s.row 44)).alloc (.cells (Kl Rep.Bk.zero).toArray 62)).alloc (.cells (Sl Rep.St.zero).toArray 44))
 generalize ((w.alloc _).alloc _).alloc _=W0 at S ⊢
 go_wp2_with (first|(refine zab rfl 44 (.tmp 4) rfl (w.heap.size) 0 rfl 44 (Sl s) S.b0 8 _ Tryz.underlying44 zbf (show 0+8≤8 by decide) s.row (by rfl) rfl ?_)|fail)
 refine (K0.out _).mono ?_
 rintro e w1 ⟨rfl,hb1⟩
 replace S:=S.later hb1
 clear hb1 K0
 cases ok
 · go_wp2_with (first|(refine zac rfl 62 (.tmp 8) (.tmp 18) rfl (w.heap.size+1) 0 rfl 62 (Kl Rep.Bk.zero) S.b1 (Kl Rep.Bk.zero) rfl zbg (show 0+7≤7 by decide) rfl (Kl Rep.Bk.zero) rfl ?_;intro WB BB OB)|(refine zac rfl 44 (.tmp 9) (.tmp 19) rfl (w.heap.size+1+1) 0 rfl 44 (Sl Rep.St.zero) (OB.blk S.b2 (by omega)) (Sl Rep.St.zero) rfl zbf (show 0+8≤8 by decide) rfl (Sl Rep.St.zero) rfl ?_;intro WC BC OC)|fail)
   exact bodyPost_ret (v := .tuple #[.agg Rep.Bk.zero.row, .agg Rep.St.zero.row]) (zgq Tryz.results61 rfl (run_loadVar_row (P:=Tryz.prog) _ _ _ _ _ _ _ (OC.blk BB (by omega)) Tryz.underlying62 rfl (by kernel_rfl)) rfl (run_loadVar_row (P:=Tryz.prog) _ _ _ _ _ _ _ BC Tryz.underlying44 rfl (by kernel_rfl))) rfl (HR2.out _ _ ⟨rfl,OC.bel (OB.bel S.u (by omega)) (by omega)⟩)
 have BK0:Blk (w1.alloc (Obj.cells (Kl Rep.Bk.zero).toArray 62)) w1.heap.size 62 (Kl Rep.Bk.zero).toArray:=Blk.new _ _ _
 have hg:=S.b2.lt
 go_upto_region 4 with (first|(refine zac rfl 62 (.tmp 10) (.tmp 23) rfl (w1.heap.size) 0 rfl 62 (Kl Rep.Bk.zero) BK0 (Kl ⟨so,0,0,0,0,la,de⟩) rfl zbg (show 0+7≤7 by decide) rfl (Kl ⟨so,0,0,0,0,la,de⟩) rfl ?_;intro WB BB OB)|fail)
 have S2:SmS w WB s w1.heap.size ⟨so,0,0,0,0,la,de⟩:=⟨OB.blk (S.b0.push _) (by omega),OB.blk (S.b1.push _) (by omega),OB.blk (S.b2.push _) (by omega),BB,OB.bel (S.u.push _) (by omega),hg⟩
 clear S BB OB BK0 hg
 generalize w1.heap.size=g at *
 have S:=S2
 clear S2
 have f0:WB.cell? ⟨w.heap.size,0,none⟩=some (.bool on):=by rw [HON.out];exact S.b0.at 0 _ rfl
 cases on
 · go_upto_region 5 with fail
   have hR:=HR2.out
   clear HR2 f0
   obtain ⟨k,hk⟩:∃ k:Rep.Bk,k=⟨so,0,0,0,0,la,de⟩:=⟨_,rfl⟩
   rw [← hk] at S
   have hR3:∀ e w',e = .returned (.tuple #[.agg k.row, .agg s.row])∧Bel w w'→R e w':=by rw [hk];exact hR
   clear hR hk
   have hR:=hR3
   clear hR3
   refine wp_region_held_drew (S:=fun w'=>Blk w' g 62 (Kl k).toArray∧Blk w' w.heap.size 44 (Sl s).toArray∧Bel w w') (by kernel_rfl) ⟨Blk.dr S.bk,Blk.dr S.b0,Bel.drew S.u⟩ (fun qH => ?_)
   have B1:=Blk.dr S.b1
   have B2:=Blk.dr S.b2
   have hg:=S.hg
   clear S
   generalize WB.drew=X at *
   refine tk1 (i:=0) (v := .agg (Kl k).toArray) rfl (zap rfl 62 (.tmp 10) rfl (g) 0 rfl 62 (Kl k) (fun w h=>h.1) 7 _ Tryz.underlying62 zbg (Nat.le_refl 7) _ rfl rfl) qH ?_
   try simp only [ss9]
   refine tk1 (i:=1) (v := .agg (Sl s).toArray) rfl (zap rfl 44 (.tmp 4) rfl (w.heap.size) 0 rfl 44 (Sl s) (fun w h=>h.2.1) 8 _ Tryz.underlying44 zbf (Nat.le_refl 8) _ rfl rfl) qH ?_
   try simp only [ss9]
   refine wpAnyH_ready (rs:=[2]) (by kernel_rfl) (by simp) ?_
   refine AllReadyH.cons (o:=_) rfl (fun K hK => ?_) AllReadyH.nil
   refine zan rfl 62 (.tmp 8) (.tmp 27) rfl (w.heap.size+1) 0 rfl 62 (Kl Rep.Bk.zero) B1 (Kl k) rfl zbg (Nat.le_refl 7) rfl (Kl k) rfl ?_
   intro WH BH OH
   replace B2:=OH.blk B2 (by omega)
   refine hK.out _ _ ⟨OH.blk qH.1 (by omega),OH.blk qH.2.1 (by omega),OH.bel qH.2.2 (by omega)⟩ (fun qH => ?_)
   clear hK K
   try simp only [ss9]
   refine wpAnyH_ready (rs:=[3]) (by kernel_rfl) (by simp) ?_
   refine AllReadyH.cons (o:=_) rfl (fun K hK => ?_) AllReadyH.nil
   refine zan rfl 44 (.tmp 9) (.tmp 28) rfl (w.heap.size+1+1) 0 rfl 44 (Sl Rep.St.zero) B2 (Sl s) rfl zbf (Nat.le_refl 8) rfl (Sl s) rfl ?_
   intro WI BS OI
   have BK:=OI.blk BH (by omega)
   refine hK.out _ _ ⟨OI.blk qH.1 (by omega),OI.blk qH.2.1 (by omega),OI.bel qH.2.2 (by omega)⟩ (fun qH => ?_)
   clear hK K
   try simp only [ss9]
   refine wpAnyH_done (by kernel_rfl) ?_ _
   go_wp2_with fail
   exact bodyPost_ret (v := .tuple #[.agg k.row, .agg s.row]) (zgq Tryz.results61 rfl (run_loadVar_row (P:=Tryz.prog) _ _ _ _ _ _ _ BK Tryz.underlying62 rfl (by kernel_rfl)) rfl (run_loadVar_row (P:=Tryz.prog) _ _ _ _ _ _ _ BS Tryz.underlying44 rfl (by kernel_rfl))) rfl (hR _ _ ⟨rfl,qH.2.2⟩)
 · go_upto_region 6 with fail
   refine zas (by assumption) ?_
   exact zuv S HOK.out rfl (by have hR:=HR2.out;rw [if_neg (by decide),if_neg (by decide)] at hR;exact hR) _ (Fr.mk rfl ⟨rfl,rfl,rfl,rfl,trivial⟩)
theorem zit (s0:Bool) (sb sh sr sx sy st sj:Int) (w:World) (so la de:Int):Calls Tryz.prog 61 #[.agg #[.bool s0, .int .i64 sb, .int .i64 sh, .int .i64 sr, .int .i64 sx, .int .i64 sy, .int .i64 st, .int .i64 sj], .int .u32 so, .int .u32 la, .int .u32 de] w fun e w'=>e = .returned (.tuple #[.agg (Rep.summary ⟨s0,sb,sh,sr,sx,sy,st,sj⟩ so la de).1.row, .agg (Rep.summary ⟨s0,sb,sh,sr,sx,sy,st,sj⟩ so la de).2.row])∧Below w.heap.size w w':=rsm0 ⟨s0,sb,sh,sr,sx,sy,st,sj⟩ w so la de
theorem QOwn.drewS {w:World} {base n c:Nat} {A:Option Addr} {l:List TW} (h:QOwn w base A n c l):QOwn w.drew base A n c l:=h.below (Below.refl _ _).drew
theorem znj {w:World} {p:Sb.Pt} {A:Option Addr} {l:List TW} {n c:Nat} {X:Array Value} (C:PC w p A l n c) (hX:X=PA p A n c) (so la de:Int):Calls Tryz.prog 17 #[.agg X, .int .u32 so, .int .u32 la, .int .u32 de] w (RepR (Sb.report p so la de) w):=by
 have S:=RK.new w X hX
 obtain ⟨v,hv⟩:∃ v,v=p.valid:=⟨_,rfl⟩
 have k1:=H9 fun (W:World) hW=>zea p C.wf A l n c (PA p A n c) rfl W C.q C.len C.n5 hW C.sq v hv
 have k3:=H9 fun (W:World) hW=>zdg p.jt A l n c W C.len C.n5 hW C.pay
 unfold CopyR at k3
 rw [C.len] at k3
 have k2:=fun (W:World)=>zka p.st.seen p.st.base p.st.high p.st.got p.st.wexp p.st.wrec p.st.trans p.st.jit W so la de
 obtain ⟨RP,hRP⟩:∃ R,R=Sb.report p so la de:=⟨_,rfl⟩
 rw [← hRP]
 have HR:Hid (RP=if v=false then (Rep.Bk.zero,Sb.Pt.zero,2) else ((Rep.summary p.st so la de).1, { p with st:=(Rep.summary p.st so la de).2 }, 0)):=H9 (by rw [hRP,hv];rfl)
 clear hv hRP
 generalize Rep.summary ⟨p.st.seen,p.st.base,p.st.high,p.st.got,p.st.wexp,p.st.wrec,p.st.trans,p.st.jit⟩ so la de=SM at *
 obtain ⟨B,T⟩:=SM
 dsimp only at k2 HR
 unfold Rep.Bk.row Rep.St.row at k2
 replace k2:=H9 k2
 clear hX
 go_enter Tryz.func17,Tryz.ntmps17
 go_upto_region 1 with fail
 change Code.wp _ _ _ _ (((w.alloc (Obj.cells X 48)).alloc (Obj.cells Rep.Bk.zero.row 62)).alloc (Obj.cells (PA Sb.Pt.zero none 0 0) 48))
 obtain ⟨W,hW⟩:∃ W,W=((w.alloc (Obj.cells X 48)).alloc (Obj.cells Rep.Bk.zero.row 62)).alloc (Obj.cells (PA Sb.Pt.zero none 0 0) 48):=⟨_,rfl⟩
 rw [← hW] at S ⊢
 clear hW
 go_wp2_with (first|(refine zab rfl 48 (.tmp 4) rfl (w.heap.size) 0 rfl 48 (PL p A n c) S.b0 48 _ Tryz.underlying48 zah (show 0+48≤48 by decide) (PA p A n c) (by rfl) rfl ?_)|fail)
 refine (k1.out _ (C.av.later S.u)).mono ?_
 rintro e w1 ⟨rfl,hb1⟩
 replace S:=S.later hb1
 clear hb1 k1
 have hL:=S.lt
 have hbk:=Blk.lt S.bk
 cases v
 · obtain rfl:RP=(Rep.Bk.zero,Sb.Pt.zero,2):=by rw [HR.out,if_pos rfl]
   go_wp2_with (first|(refine zac rfl 62 (.tmp 8) (.tmp 16) rfl (w.heap.size+1) 0 rfl 62 ([.int .u32 0, .int .u8 0, .int .i64 0, .int .u32 0, .int .u32 0, .int .u32 0, .int .u32 0]) S.bk ([.int .u32 0, .int .u8 0, .int .i64 0, .int .u32 0, .int .u32 0, .int .u32 0, .int .u32 0]) rfl zbe (Nat.le_refl 7) rfl ([.int .u32 0, .int .u8 0, .int .i64 0, .int .u32 0, .int .u32 0, .int .u32 0, .int .u32 0]) rfl ?_;intro WG BG OG)|(refine zac rfl 48 (.tmp 9) (.tmp 17) rfl (w.heap.size+1+1) 0 rfl 48 (PL Sb.Pt.zero none 0 0) (OG.blk S.b1 (by omega)) (PL Sb.Pt.zero none 0 0) rfl zah (show 0+48≤48 by decide) rfl (PL Sb.Pt.zero none 0 0) rfl ?_;intro WH BH OH)|fail)
   have BZ2:Blk WH (w.heap.size+1) 62 ([.int .u32 0, .int .u8 0, .int .i64 0, .int .u32 0, .int .u32 0, .int .u32 0, .int .u32 0]:List Value).toArray:=OH.blk BG (by omega)
   exact bodyPost_ret (v := .tuple #[.agg Rep.Bk.zero.row, .agg (PA Sb.Pt.zero none 0 0), .int .u8 2]) (zhh Tryz.results17 rfl (run_loadVar_row WH _ _ _ _ _ _ BZ2 Tryz.underlying62 rfl zbe) rfl (PB.load (p:=Sb.Pt.zero) (A:=none) (n:=0) (c:=0) BH) rfl) rfl ⟨none,0,0,rfl,PW.zero,OH.bel (OG.bel S.u (by omega)) (by omega)⟩
 obtain rfl:RP=(B, { p with st:=T }, 0):=by rw [HR.out,if_neg (by decide)]
 go_upto_region 3 with fail
 go_wp2_with (first|(refine zab rfl 44 (.tmp 19) rfl (w.heap.size) 32 rfl 48 (PL p A n c) S.b0 8 _ Tryz.underlying44 zbq (show 32+8≤48 by decide) (#[.bool p.st.seen, .int .i64 p.st.base, .int .i64 p.st.high, .int .i64 p.st.got, .int .i64 p.st.wexp, .int .i64 p.st.wrec, .int .i64 p.st.trans, .int .i64 p.st.jit]) (by rfl) rfl ?_)|fail)
 refine (k2.out _).mono ?_
 rintro e w2 ⟨rfl,hb1⟩
 replace S:=S.later hb1
 have hL2:=S.lt
 clear hb1 k2 HR
 have BK:=H9 ((Blk.new w2 62 #[.int .u32 B.source, .int .u8 B.frac, .int .i64 B.lost, .int .u32 B.high, .int .u32 B.jit, .int .u32 B.last, .int .u32 B.delay]).push (.cells #[.bool T.seen, .int .i64 T.base, .int .i64 T.high, .int .i64 T.got, .int .i64 T.wexp, .int .i64 T.wrec, .int .i64 T.trans, .int .i64 T.jit] 44))
 have BT:=H9 (Blk.new1 w2 (.cells #[.int .u32 B.source, .int .u8 B.frac, .int .i64 B.lost, .int .u32 B.high, .int .u32 B.jit, .int .u32 B.last, .int .u32 B.delay] 62) 44 #[.bool T.seen, .int .i64 T.base, .int .i64 T.high, .int .i64 T.got, .int .i64 T.wexp, .int .i64 T.wrec, .int .i64 T.trans, .int .i64 T.jit])
 replace S:=(S.push (.cells #[.int .u32 B.source, .int .u8 B.frac, .int .i64 B.lost, .int .u32 B.high, .int .u32 B.jit, .int .u32 B.last, .int .u32 B.delay] 62)).push (.cells #[.bool T.seen, .int .i64 T.base, .int .i64 T.high, .int .i64 T.got, .int .i64 T.wexp, .int .i64 T.wrec, .int .i64 T.trans, .int .i64 T.jit] 44)
 obtain ⟨gb,hgb⟩:∃ g,g=w2.heap.size:=⟨_,rfl⟩
 obtain ⟨W4,hW4⟩:∃ V,V=(w2.alloc (.cells #[.int .u32 B.source, .int .u8 B.frac, .int .i64 B.lost, .int .u32 B.high, .int .u32 B.jit, .int .u32 B.last, .int .u32 B.delay] 62)).alloc (.cells #[.bool T.seen, .int .i64 T.base, .int .i64 T.high, .int .i64 T.got, .int .i64 T.wexp, .int .i64 T.wrec, .int .i64 T.trans, .int .i64 T.jit] 44):=⟨_,rfl⟩
 rw [← hgb,← hW4] at BK BT
 rw [← hgb] at hL2
 go_upto_region 4 with fail
 rw [← hgb]
 rw [← hW4] at S ⊢
 clear hW4 hgb
 have hLc:=S.lt
 go_wp2_with (first|(refine zab rfl 40 (.tmp 27) rfl (w.heap.size) 14 rfl 48 (PL p A n c) S.b0 14 _ Tryz.underlying40 zaw (show 14+14≤48 by decide) (#[.int .i64 p.jt.least, .int .i64 p.jt.most, .int .i64 p.jt.now, .bool p.jt.on, .int .i64 p.jt.zero, .int .i64 p.jt.first, .int .i64 p.jt.high, .int .i64 p.jt.done, .int .i64 p.jt.spread, .int .i64 p.jt.trans, .slice A n c, .int .i64 p.jt.late, .int .i64 p.jt.twice, .int .i64 p.jt.played]) (by rfl) rfl ?_)|fail)
 refine (k3.out _ (C.av.later S.u)).mono ?_
 rintro e w3 ⟨A2,c2,l2,rfl,hm2,hQ2,hb1⟩
 replace S:=S.later hb1
 replace BK:=H9 (BK.out.later hb1)
 replace BT:=H9 (BT.out.later hb1)
 have HQL:=H9 (show l2.map TW.w=p.jt.q from hm2.trans C.q)
 have hbt:=BT.out.lt
 clear hb1 k3 hm2
 go_upto_region 5 with (first|(refine zac rfl 40 (.tmp 30) (.tmp 29) rfl (w.heap.size) 14 rfl 48 (PL p A n c) S.b0 (JW p.jt A2 n c2) rfl zaw (show 14+14≤48 by decide) rfl (PL p A2 n c2) rfl ?_;intro WF BF OF)|fail)
 replace hQ2:=hQ2.only OF (by omega)
 replace S:=S.over OF BF
 replace BK:=H9 (OF.blk BK.out (by omega))
 replace BT:=H9 (OF.blk BT.out (by omega))
 clear BF OF
 go_upto_region 6 with (first|(refine zab rfl 44 (.tmp 12) rfl (gb+1) 0 rfl 44 ([.bool T.seen, .int .i64 T.base, .int .i64 T.high, .int .i64 T.got, .int .i64 T.wexp, .int .i64 T.wrec, .int .i64 T.trans, .int .i64 T.jit]) BT.out 8 _ Tryz.underlying44 zbq (show 0+8≤8 by decide) (#[.bool T.seen, .int .i64 T.base, .int .i64 T.high, .int .i64 T.got, .int .i64 T.wexp, .int .i64 T.wrec, .int .i64 T.trans, .int .i64 T.jit]) (by rfl) rfl ?_)|(refine zac rfl 44 (.tmp 32) (.tmp 31) rfl (w.heap.size) 32 rfl 48 (PL p A2 n c2) S.b0 ([.bool T.seen, .int .i64 T.base, .int .i64 T.high, .int .i64 T.got, .int .i64 T.wexp, .int .i64 T.wrec, .int .i64 T.trans, .int .i64 T.jit]) rfl zbq (show 32+8≤48 by decide) rfl (PL { p with st:=T } A2 n c2) rfl ?_;intro WG BG OG)|fail)
 replace S:=S.over OG BG
 replace BK:=H9 (OG.blk BK.out (by omega))
 replace hQ2:=hQ2.only OG (by omega)
 clear BG OG BT
 refine wp_region_held_drew (S:=fun w'=>Blk w' gb 62 ([.int .u32 B.source, .int .u8 B.frac, .int .i64 B.lost, .int .u32 B.high, .int .u32 B.jit, .int .u32 B.last, .int .u32 B.delay]:List Value).toArray∧PB w' w.heap.size { p with st:=T } A2 n c2) (by kernel_rfl) ⟨Blk.dr BK.out,Blk.dr S.b0⟩ (fun qH => ?_)
 obtain ⟨X9,hX9⟩:∃ V,V=WG.drew:=⟨_,rfl⟩
 replace S:RK w X9 { p with st:=T } A2 n c2:=by rw [hX9];exact ⟨S.b0,S.bk,S.b1,Bel.drew S.u⟩
 have hQ3:=QOwn.drewS hQ2
 rw [← hX9] at hQ3
 rw [← hX9] at qH ⊢
 clear hX9 BK
 refine tk1 (i:=0) (v := .agg #[.int .u32 B.source, .int .u8 B.frac, .int .i64 B.lost, .int .u32 B.high, .int .u32 B.jit, .int .u32 B.last, .int .u32 B.delay]) rfl (zap rfl 62 (.tmp 11) rfl gb 0 rfl 62 ([.int .u32 B.source, .int .u8 B.frac, .int .i64 B.lost, .int .u32 B.high, .int .u32 B.jit, .int .u32 B.last, .int .u32 B.delay]) (fun w h=>h.1) 7 _ Tryz.underlying62 zbe (Nat.le_refl 7) _ rfl rfl) qH ?_
 try simp only [ss9]
 refine tk1 (i:=1) (v := .agg (PA { p with st:=T } A2 n c2)) rfl (zap rfl 48 (.tmp 4) rfl w.heap.size 0 rfl 48 (PL { p with st:=T } A2 n c2) (fun w h=>h.2) 48 _ Tryz.underlying48 zah (Nat.le_refl 48) _ rfl rfl) qH ?_
 try simp only [ss9]
 refine wpAnyH_ready (rs:=[2]) (by kernel_rfl) (by simp) ?_
 refine AllReadyH.cons (o:=_) rfl (fun K hK => ?_) AllReadyH.nil
 refine zan rfl 62 (.tmp 8) (.tmp 33) rfl (w.heap.size+1) 0 rfl 62 ([.int .u32 0, .int .u8 0, .int .i64 0, .int .u32 0, .int .u32 0, .int .u32 0, .int .u32 0]) S.bk ([.int .u32 B.source, .int .u8 B.frac, .int .i64 B.lost, .int .u32 B.high, .int .u32 B.jit, .int .u32 B.last, .int .u32 B.delay]) rfl zbe (Nat.le_refl 7) rfl ([.int .u32 B.source, .int .u8 B.frac, .int .i64 B.lost, .int .u32 B.high, .int .u32 B.jit, .int .u32 B.last, .int .u32 B.delay]) rfl ?_
 intro WA BA OA
 refine hK.out _ _ ⟨OA.blk qH.1 (by omega),OA.blk qH.2 (by omega)⟩ (fun hHeld2 => ?_)
 clear hK K
 try simp only [ss9]
 have B1A:PB WA (w.heap.size+1+1) Sb.Pt.zero none 0 0:=OA.blk S.b1 (by omega)
 have UA:=OA.bel S.u (by omega)
 replace hQ3:=hQ3.only OA (by omega)
 refine wpAnyH_ready (rs:=[3]) (by kernel_rfl) (by simp) ?_
 refine AllReadyH.cons (o:=_) rfl (fun K hK => ?_) AllReadyH.nil
 refine zan rfl 48 (.tmp 9) (.tmp 34) rfl (w.heap.size+1+1) 0 rfl 48 (PL Sb.Pt.zero none 0 0) B1A (PL { p with st:=T } A2 n c2) rfl zah (Nat.le_refl 48) rfl (PL { p with st:=T } A2 n c2) rfl ?_
 intro WH BH OH
 refine hK.out _ _ ⟨OH.blk hHeld2.1 (by omega),OH.blk hHeld2.2 (by omega)⟩ (fun hHeld3 => ?_)
 clear hK K
 try simp only [ss9]
 have BA2:=OH.blk BA (by omega)
 replace hQ3:=hQ3.only OH (by omega)
 refine tk1 (i:=4) (v := .int .u8 0) rfl (Or.inl ⟨by rfl,fun w _=>by go_simp;try with_reducible rfl⟩) hHeld3 ?_
 try simp only [ss9]
 refine wpAnyH_done (by kernel_rfl) ?_ _
 go_wp2_with fail
 exact bodyPost_ret (v := .tuple #[.agg B.row, .agg (PA { p with st:=T } A2 n c2), .int .u8 0]) (zhh Tryz.results17 rfl (run_loadVar_row WH _ _ _ _ _ _ BA2 Tryz.underlying62 rfl zbe) rfl (PB.load BH) rfl) rfl ⟨A2,n,c2,rfl,⟨l2,HQL.out,hQ3.len,hQ3.wts⟩,OH.bel UA (by omega)⟩
theorem zkb {w:World} {p:Sb.Pt} {A:Option Addr} {l:List TW} {n c:Nat} {X:Array Value} (C:PC w p A l n c) (hX:X=PA p A n c) (so la de:Int):Calls Tryz.prog 18 #[.agg X, .int .u32 so, .int .u32 la, .int .u32 de] w (RepR (Sb.report p so la de) w):=by
 have S:=RK.new w X hX
 obtain ⟨v,hv⟩:∃ v,v=p.valid:=⟨_,rfl⟩
 have k1:=H9 fun (W:World) hW=>zcm p A l n c (PA p A n c) rfl W C.q C.len C.n5 hW (fun a h=>Nat.le_trans (C.pay a h) (by decide)) v hv
 have k2:=fun (W:World)=>zit p.st.seen p.st.base p.st.high p.st.got p.st.wexp p.st.wrec p.st.trans p.st.jit W so la de
 obtain ⟨RP,hRP⟩:∃ R,R=Sb.report p so la de:=⟨_,rfl⟩
 rw [← hRP]
 have HR:Hid (RP=if v=false then (Rep.Bk.zero,Sb.Pt.zero,2) else ((Rep.summary p.st so la de).1, { p with st:=(Rep.summary p.st so la de).2 }, 0)):=H9 (by rw [hRP,hv];rfl)
 clear hv hRP
 generalize Rep.summary ⟨p.st.seen,p.st.base,p.st.high,p.st.got,p.st.wexp,p.st.wrec,p.st.trans,p.st.jit⟩ so la de=SM at *
 obtain ⟨B,T⟩:=SM
 dsimp only at k2 HR
 unfold Rep.Bk.row Rep.St.row at k2
 replace k2:=H9 k2
 clear hX
 go_enter Tryz.func18,Tryz.ntmps18
 go_upto_region 1 with fail
 change Code.wp _ _ _ _ (((w.alloc (Obj.cells X 48)).alloc (Obj.cells Rep.Bk.zero.row 62)).alloc (Obj.cells (PA Sb.Pt.zero none 0 0) 48))
 obtain ⟨W,hW⟩:∃ W,W=((w.alloc (Obj.cells X 48)).alloc (Obj.cells Rep.Bk.zero.row 62)).alloc (Obj.cells (PA Sb.Pt.zero none 0 0) 48):=⟨_,rfl⟩
 rw [← hW] at S ⊢
 clear hW
 go_wp2_with (first|(refine zab rfl 48 (.tmp 4) rfl (w.heap.size) 0 rfl 48 (PL p A n c) S.b0 48 _ Tryz.underlying48 zah (show 0+48≤48 by decide) (PA p A n c) (by rfl) rfl ?_)|fail)
 refine (k1.out _ (C.av.later S.u)).mono ?_
 rintro e w1 ⟨rfl,hb1⟩
 replace S:=S.later hb1
 clear hb1 k1
 have hL:=S.lt
 have hbk:=Blk.lt S.bk
 cases v
 · obtain rfl:RP=(Rep.Bk.zero,Sb.Pt.zero,2):=by rw [HR.out,if_pos rfl]
   go_wp2_with (first|(refine zac rfl 62 (.tmp 8) (.tmp 16) rfl (w.heap.size+1) 0 rfl 62 ([.int .u32 0, .int .u8 0, .int .i64 0, .int .u32 0, .int .u32 0, .int .u32 0, .int .u32 0]) S.bk ([.int .u32 0, .int .u8 0, .int .i64 0, .int .u32 0, .int .u32 0, .int .u32 0, .int .u32 0]) rfl zbe (Nat.le_refl 7) rfl ([.int .u32 0, .int .u8 0, .int .i64 0, .int .u32 0, .int .u32 0, .int .u32 0, .int .u32 0]) rfl ?_;intro WG BG OG)|(refine zac rfl 48 (.tmp 9) (.tmp 17) rfl (w.heap.size+1+1) 0 rfl 48 (PL Sb.Pt.zero none 0 0) (OG.blk S.b1 (by omega)) (PL Sb.Pt.zero none 0 0) rfl zah (show 0+48≤48 by decide) rfl (PL Sb.Pt.zero none 0 0) rfl ?_;intro WH BH OH)|fail)
   have BZ2:Blk WH (w.heap.size+1) 62 ([.int .u32 0, .int .u8 0, .int .i64 0, .int .u32 0, .int .u32 0, .int .u32 0, .int .u32 0]:List Value).toArray:=OH.blk BG (by omega)
   exact bodyPost_ret (v := .tuple #[.agg Rep.Bk.zero.row, .agg (PA Sb.Pt.zero none 0 0), .int .u8 2]) (zhh Tryz.results18 rfl (run_loadVar_row WH _ _ _ _ _ _ BZ2 Tryz.underlying62 rfl zbe) rfl (PB.load (p:=Sb.Pt.zero) (A:=none) (n:=0) (c:=0) BH) rfl) rfl ⟨none,0,0,rfl,PW.zero,OH.bel (OG.bel S.u (by omega)) (by omega)⟩
 obtain rfl:RP=(B, { p with st:=T }, 0):=by rw [HR.out,if_neg (by decide)]
 go_upto_region 3 with fail
 go_wp2_with (first|(refine zab rfl 44 (.tmp 19) rfl (w.heap.size) 32 rfl 48 (PL p A n c) S.b0 8 _ Tryz.underlying44 zbq (show 32+8≤48 by decide) (#[.bool p.st.seen, .int .i64 p.st.base, .int .i64 p.st.high, .int .i64 p.st.got, .int .i64 p.st.wexp, .int .i64 p.st.wrec, .int .i64 p.st.trans, .int .i64 p.st.jit]) (by rfl) rfl ?_)|fail)
 refine (k2.out _).mono ?_
 rintro e w2 ⟨rfl,hb1⟩
 replace S:=S.later hb1
 have hL2:=S.lt
 clear hb1 k2 HR
 have BK:=H9 ((Blk.new w2 62 #[.int .u32 B.source, .int .u8 B.frac, .int .i64 B.lost, .int .u32 B.high, .int .u32 B.jit, .int .u32 B.last, .int .u32 B.delay]).push (.cells #[.bool T.seen, .int .i64 T.base, .int .i64 T.high, .int .i64 T.got, .int .i64 T.wexp, .int .i64 T.wrec, .int .i64 T.trans, .int .i64 T.jit] 44))
 have BT:=H9 (Blk.new1 w2 (.cells #[.int .u32 B.source, .int .u8 B.frac, .int .i64 B.lost, .int .u32 B.high, .int .u32 B.jit, .int .u32 B.last, .int .u32 B.delay] 62) 44 #[.bool T.seen, .int .i64 T.base, .int .i64 T.high, .int .i64 T.got, .int .i64 T.wexp, .int .i64 T.wrec, .int .i64 T.trans, .int .i64 T.jit])
 replace S:=(S.push (.cells #[.int .u32 B.source, .int .u8 B.frac, .int .i64 B.lost, .int .u32 B.high, .int .u32 B.jit, .int .u32 B.last, .int .u32 B.delay] 62)).push (.cells #[.bool T.seen, .int .i64 T.base, .int .i64 T.high, .int .i64 T.got, .int .i64 T.wexp, .int .i64 T.wrec, .int .i64 T.trans, .int .i64 T.jit] 44)
 obtain ⟨gb,hgb⟩:∃ g,g=w2.heap.size:=⟨_,rfl⟩
 obtain ⟨W4,hW4⟩:∃ V,V=(w2.alloc (.cells #[.int .u32 B.source, .int .u8 B.frac, .int .i64 B.lost, .int .u32 B.high, .int .u32 B.jit, .int .u32 B.last, .int .u32 B.delay] 62)).alloc (.cells #[.bool T.seen, .int .i64 T.base, .int .i64 T.high, .int .i64 T.got, .int .i64 T.wexp, .int .i64 T.wrec, .int .i64 T.trans, .int .i64 T.jit] 44):=⟨_,rfl⟩
 rw [← hgb,← hW4] at BK BT
 rw [← hgb] at hL2
 go_upto_region 4 with fail
 rw [← hgb]
 rw [← hW4] at S ⊢
 clear hW4 hgb
 go_upto_region 5 with (first|(refine zab rfl 44 (.tmp 12) rfl (gb+1) 0 rfl 44 ([.bool T.seen, .int .i64 T.base, .int .i64 T.high, .int .i64 T.got, .int .i64 T.wexp, .int .i64 T.wrec, .int .i64 T.trans, .int .i64 T.jit]) BT.out 8 _ Tryz.underlying44 zbq (show 0+8≤8 by decide) (#[.bool T.seen, .int .i64 T.base, .int .i64 T.high, .int .i64 T.got, .int .i64 T.wexp, .int .i64 T.wrec, .int .i64 T.trans, .int .i64 T.jit]) (by rfl) rfl ?_)|(refine zac rfl 44 (.tmp 28) (.tmp 27) rfl (w.heap.size) 32 rfl 48 (PL p A n c) S.b0 ([.bool T.seen, .int .i64 T.base, .int .i64 T.high, .int .i64 T.got, .int .i64 T.wexp, .int .i64 T.wrec, .int .i64 T.trans, .int .i64 T.jit]) rfl zbq (show 32+8≤48 by decide) rfl (PL { p with st:=T } A n c) rfl ?_;intro WG BG OG)|fail)
 replace S:=S.over OG BG
 replace BK:=H9 (OG.blk BK.out (by omega))
 clear BG OG BT
 refine wp_region_held_drew (S:=fun w'=>Blk w' gb 62 ([.int .u32 B.source, .int .u8 B.frac, .int .i64 B.lost, .int .u32 B.high, .int .u32 B.jit, .int .u32 B.last, .int .u32 B.delay]:List Value).toArray∧PB w' w.heap.size { p with st:=T } A n c) (by kernel_rfl) ⟨Blk.dr BK.out,Blk.dr S.b0⟩ (fun qH => ?_)
 obtain ⟨X9,hX9⟩:∃ V,V=WG.drew:=⟨_,rfl⟩
 replace S:RK w X9 { p with st:=T } A n c:=by rw [hX9];exact ⟨S.b0,S.bk,S.b1,Bel.drew S.u⟩
 rw [← hX9] at qH ⊢
 clear hX9 BK
 refine tk1 (i:=0) (v := .agg #[.int .u32 B.source, .int .u8 B.frac, .int .i64 B.lost, .int .u32 B.high, .int .u32 B.jit, .int .u32 B.last, .int .u32 B.delay]) rfl (zap rfl 62 (.tmp 11) rfl gb 0 rfl 62 ([.int .u32 B.source, .int .u8 B.frac, .int .i64 B.lost, .int .u32 B.high, .int .u32 B.jit, .int .u32 B.last, .int .u32 B.delay]) (fun w h=>h.1) 7 _ Tryz.underlying62 zbe (Nat.le_refl 7) _ rfl rfl) qH ?_
 try simp only [ss9]
 refine tk1 (i:=1) (v := .agg (PA { p with st:=T } A n c)) rfl (zap rfl 48 (.tmp 4) rfl w.heap.size 0 rfl 48 (PL { p with st:=T } A n c) (fun w h=>h.2) 48 _ Tryz.underlying48 zah (Nat.le_refl 48) _ rfl rfl) qH ?_
 try simp only [ss9]
 refine wpAnyH_ready (rs:=[2]) (by kernel_rfl) (by simp) ?_
 refine AllReadyH.cons (o:=_) rfl (fun K hK => ?_) AllReadyH.nil
 refine zan rfl 62 (.tmp 8) (.tmp 29) rfl (w.heap.size+1) 0 rfl 62 ([.int .u32 0, .int .u8 0, .int .i64 0, .int .u32 0, .int .u32 0, .int .u32 0, .int .u32 0]) S.bk ([.int .u32 B.source, .int .u8 B.frac, .int .i64 B.lost, .int .u32 B.high, .int .u32 B.jit, .int .u32 B.last, .int .u32 B.delay]) rfl zbe (Nat.le_refl 7) rfl ([.int .u32 B.source, .int .u8 B.frac, .int .i64 B.lost, .int .u32 B.high, .int .u32 B.jit, .int .u32 B.last, .int .u32 B.delay]) rfl ?_
 intro WA BA OA
 refine hK.out _ _ ⟨OA.blk qH.1 (by omega),OA.blk qH.2 (by omega)⟩ (fun hHeld2 => ?_)
 clear hK K
 try simp only [ss9]
 have B1A:PB WA (w.heap.size+1+1) Sb.Pt.zero none 0 0:=OA.blk S.b1 (by omega)
 have UA:=OA.bel S.u (by omega)
 refine wpAnyH_ready (rs:=[3]) (by kernel_rfl) (by simp) ?_
 refine AllReadyH.cons (o:=_) rfl (fun K hK => ?_) AllReadyH.nil
 refine zan rfl 48 (.tmp 9) (.tmp 30) rfl (w.heap.size+1+1) 0 rfl 48 (PL Sb.Pt.zero none 0 0) B1A (PL { p with st:=T } A n c) rfl zah (Nat.le_refl 48) rfl (PL { p with st:=T } A n c) rfl ?_
 intro WH BH OH
 refine hK.out _ _ ⟨OH.blk hHeld2.1 (by omega),OH.blk hHeld2.2 (by omega)⟩ (fun hHeld3 => ?_)
 clear hK K
 try simp only [ss9]
 have BA2:=OH.blk BA (by omega)
 refine tk1 (i:=4) (v := .int .u8 0) rfl (Or.inl ⟨by rfl,fun w _=>by go_simp;try with_reducible rfl⟩) hHeld3 ?_
 try simp only [ss9]
 refine wpAnyH_done (by kernel_rfl) ?_ _
 go_wp2_with fail
 exact bodyPost_ret (v := .tuple #[.agg B.row, .agg (PA { p with st:=T } A n c), .int .u8 0]) (zhh Tryz.results18 rfl (run_loadVar_row WH _ _ _ _ _ _ BA2 Tryz.underlying62 rfl zbe) rfl (PB.load BH) rfl) rfl ⟨A,n,c,rfl,C.pw (OH.bel UA (by omega)) rfl,OH.bel UA (by omega)⟩
theorem zuw {w:World} {p:Sb.Pt} {A:Option Addr} {l:List TW} {n c:Nat} {x:Rx} {now so la de:Int} {W:World} (C:XC w p A l n c x) (S:LV w W p A n c x) (a:Act) (ha:Fr 144 [(1, .int .i64 now),(3, .int .u32 so),(4, .int .u32 la),(5, .int .u32 de),(6, .pointer (some ⟨w.heap.size,0,none⟩)),(8, .pointer (some ⟨w.heap.size+1,0,none⟩))] a):firstWp Tryz.prog rl11_code (bodyPost Tryz.prog Tryz.f4 (fun e w'=>e = .returned (.bool true)∧Below w.heap.size w w')) a W:=by
 have hql:p.jt.q.length≤100000:=by rw [← C.pc.q];simp;have:=C.pc.len;have:=C.pc.n5;omega
 have hsm:=zje hql so la de
 have k1:=H9 fun (W:World) (hW:Bel w W)=>znj (C.pc.later hW) rfl so la de
 have k2:=H9 fun (W:World) (hW:Bel w W)=>zkb (C.pc.later hW) rfl so la de
 unfold RepR at k1 k2
 generalize Sb.report p so la de=NW at *
 obtain ⟨B,q,er⟩:=NW
 dsimp only at k1 k2 hsm
 unfold Rep.Bk.row at k1 k2
 have HS:=H9 hsm
 have k9:=H9 fun W=>zjc W
 clear hsm hql
 obtain ⟨s,rfl,e1,e3,e4,e5,e6,e8,_⟩:=ha
 rw [r144,e1,e3,e4,e5,e6,e8]
 clear e1 e3 e4 e5 e6 e8
 refine zau ?_
 intro _ _
 go_wp2_with (first|(refine zab rfl 48 (.tmp 6) rfl (w.heap.size) 0 rfl 48 (PL p A n c) S.b0 48 _ Tryz.underlying48 zah (show 0+48≤48 by decide) (PA p A n c) (by rfl) rfl ?_)|fail)
 refine (k1.out _ S.u).mono ?_
 rintro e w1 ⟨A1,n1,c1,rfl,hp1,hb1⟩
 replace S:=S.later hb1
 clear hb1 k1
 have K1:=H9 ((Blk.new w1 62 #[.int .u32 B.source, .int .u8 B.frac, .int .i64 B.lost, .int .u32 B.high, .int .u32 B.jit, .int .u32 B.last, .int .u32 B.delay]).push (.cells (PA Sb.Pt.zero none 0 0) 48))
 have BZ:Blk ((w1.alloc (.cells #[.int .u32 B.source, .int .u8 B.frac, .int .i64 B.lost, .int .u32 B.high, .int .u32 B.jit, .int .u32 B.last, .int .u32 B.delay] 62)).alloc (.cells (PA Sb.Pt.zero none 0 0) 48)) (w1.heap.size+1) 48 (PL Sb.Pt.zero none 0 0).toArray:=Blk.new1 _ _ _ _
 have hbz:Below w1.heap.size w1 ((w1.alloc (.cells #[.int .u32 B.source, .int .u8 B.frac, .int .i64 B.lost, .int .u32 B.high, .int .u32 B.jit, .int .u32 B.last, .int .u32 B.delay] 62)).alloc (.cells (PA Sb.Pt.zero none 0 0) 48)):=((Below.refl _ _).alloc (Nat.le_refl _) _).alloc (by simp) _
 go_upto_region 12 with (first|(refine zac rfl 48 (.tmp 28) (.tmp 117) rfl (w1.heap.size+1) 0 rfl 48 (PL Sb.Pt.zero none 0 0) BZ (PL q A1 n1 c1) rfl zah (show 0+48≤48 by decide) rfl (PL q A1 n1 c1) rfl ?_;intro V1 B1 OB)|fail)
 replace K1:=H9 (OB.blk K1.out (by omega))
 have hbb:=OB.below hbz (by simp;omega) (by omega)
 replace S:=S.later hbb
 replace hp1:=hp1.later hbb
 replace B1:=H9 (show PB V1 (w1.heap.size+1) q A1 n1 c1 from B1)
 obtain ⟨g1,hg1⟩:∃ g,g=w1.heap.size:=⟨_,rfl⟩
 rw [← hg1] at B1 K1 ⊢
 clear hg1 OB BZ hbb hbz
 go_wp2_with (first|(refine zab rfl 48 (.tmp 6) rfl (w.heap.size) 0 rfl 48 (PL p A n c) S.b0 48 _ Tryz.underlying48 zah (show 0+48≤48 by decide) (PA p A n c) (by rfl) rfl ?_)|fail)
 refine (k2.out _ S.u).mono ?_
 rintro e w2 ⟨A2,n2,c2,rfl,hp2,hb1⟩
 replace S:=S.later hb1
 replace hp1:=hp1.later hb1
 replace B1:=H9 (B1.out.later hb1)
 replace K1:=H9 (K1.out.later hb1)
 clear hb1 k2
 have K2:=H9 ((Blk.new w2 62 #[.int .u32 B.source, .int .u8 B.frac, .int .i64 B.lost, .int .u32 B.high, .int .u32 B.jit, .int .u32 B.last, .int .u32 B.delay]).push (.cells (PA Sb.Pt.zero none 0 0) 48))
 have BZ:Blk ((w2.alloc (.cells #[.int .u32 B.source, .int .u8 B.frac, .int .i64 B.lost, .int .u32 B.high, .int .u32 B.jit, .int .u32 B.last, .int .u32 B.delay] 62)).alloc (.cells (PA Sb.Pt.zero none 0 0) 48)) (w2.heap.size+1) 48 (PL Sb.Pt.zero none 0 0).toArray:=Blk.new1 _ _ _ _
 have hbz:Below w2.heap.size w2 ((w2.alloc (.cells #[.int .u32 B.source, .int .u8 B.frac, .int .i64 B.lost, .int .u32 B.high, .int .u32 B.jit, .int .u32 B.last, .int .u32 B.delay] 62)).alloc (.cells (PA Sb.Pt.zero none 0 0) 48)):=((Below.refl _ _).alloc (Nat.le_refl _) _).alloc (by simp) _
 go_upto_region 13 with (first|(refine zac rfl 48 (.tmp 31) (.tmp 126) rfl (w2.heap.size+1) 0 rfl 48 (PL Sb.Pt.zero none 0 0) BZ (PL q A2 n2 c2) rfl zah (show 0+48≤48 by decide) rfl (PL q A2 n2 c2) rfl ?_;intro V2 B2 OB)|fail)
 replace K2:=H9 (OB.blk K2.out (by omega))
 have hbb:=OB.below hbz (by simp;omega) (by omega)
 replace S:=S.later hbb
 replace hp2:=hp2.later hbb
 replace hp1:=hp1.later hbb
 replace B1:=H9 (B1.out.later hbb)
 replace K1:=H9 (K1.out.later hbb)
 replace B2:=H9 (show PB V2 (w2.heap.size+1) q A2 n2 c2 from B2)
 obtain ⟨g2,hg2⟩:∃ g,g=w2.heap.size:=⟨_,rfl⟩
 rw [← hg2] at B2 K2 ⊢
 clear hg2 OB BZ hbb hbz
 have hn1:=hp1.small HS.out
 have k5:=H9 fun (V:World) (h1:PW V q A1 n1) (h2:PW V q A2 n2)=>zec (c:=c1) (d:=c2) h1 h2 hn1
 have HP:=H9 (show PW V2 q A1 n1∧PW V2 q A2 n2 from ⟨hp1,hp2⟩)
 clear hn1 hp1 hp2
 go_wp2_with (first|(refine zab rfl 62 (.tmp 27) rfl (g1) 0 rfl 62 ([.int .u32 B.source, .int .u8 B.frac, .int .i64 B.lost, .int .u32 B.high, .int .u32 B.jit, .int .u32 B.last, .int .u32 B.delay]) K1.out 7 _ Tryz.underlying62 zbe (Nat.le_refl 7) (#[.int .u32 B.source, .int .u8 B.frac, .int .i64 B.lost, .int .u32 B.high, .int .u32 B.jit, .int .u32 B.last, .int .u32 B.delay]) (by rfl) rfl ?_)|(refine zab rfl 62 (.tmp 30) rfl (g2) 0 rfl 62 ([.int .u32 B.source, .int .u8 B.frac, .int .i64 B.lost, .int .u32 B.high, .int .u32 B.jit, .int .u32 B.last, .int .u32 B.delay]) K2.out 7 _ Tryz.underlying62 zbe (Nat.le_refl 7) (#[.int .u32 B.source, .int .u8 B.frac, .int .i64 B.lost, .int .u32 B.high, .int .u32 B.jit, .int .u32 B.last, .int .u32 B.delay]) (by rfl) rfl ?_)|(refine zci (by rfl) 48 (.tmp 28) rfl (g1+1) 0 rfl 48 (PL q A1 n1 c1) B1.out 48 _ Tryz.underlying48 zah (Nat.le_refl 48) (PA q A1 n1 c1) (by rfl) rfl ?_)|(refine zci (by rfl) 48 (.tmp 31) rfl (g2+1) 0 rfl 48 (PL q A2 n2 c2) B2.out 48 _ Tryz.underlying48 zah (Nat.le_refl 48) (PA q A2 n2 c2) (by rfl) rfl ?_)|fail)
 refine (k5.out _ HP.out.1 HP.out.2).mono ?_
 rintro e w5 ⟨rfl,hb1⟩
 replace S:=S.later hb1
 clear hb1 k5 B1 B2 K1 K2 HP
 go_wp2_with fail
 refine (k9.out _).mono ?_
 rintro e w7 ⟨rfl,hb1⟩
 replace S:=S.later hb1
 clear hb1 k9
 go_wp2_with fail
 go_ret
 exact ⟨rfl,S.u⟩
end Go.Proofs.YtahbecinkciahaaGreat
namespace Go.Proofs.YtahbecinkciahaaGreat
open Go.RowKit
theorem znk {w:World} {p:Sb.Pt} {A:Option Addr} {l:List TW} {n c:Nat} {x:Rx} {now so la de:Int} {X:Array Value} (hX:X=PA p A n c) (wf:p.wf) (hq:l.map TW.w=p.jt.q) (hn:l.length=n) (hcap:n≤c) (hcm:c≤maxLen) (hA:Wts w w.heap.size A l) (hK:∀ a∈l,I64 a.w.m.sq) (hT:∀ a∈l,(0≤a.w.m.ty∧a.w.m.ty≤255)∧∀ z∈a.w.m.pl,0≤z∧z≤255)
 (hx:(0≤x.ty∧x.ty≤255)∧(0≤x.sq∧x.sq≤65535)∧(0≤x.ti∧x.ti≤4294967295)∧IntsAt w w.heap.size .u8 x.B x.pl∧Within 0 255 x.pl) (hh:(-9223372036854775808≤p.hd.len∧p.hd.len≤9223372036854775807)∧(0≤p.hd.time∧p.hd.time≤4294967295)):Calls Tryz.prog 4 #[.agg X, .int .i64 now, .agg x.row, .int .u32 so, .int .u32 la, .int .u32 de] w (fun e w'=>e = .returned (.bool true)∧Below w.heap.size w w') :=
 zps hX wf hq hn hcap hcm hA hK hT hx hh fun _ a C S ha=>zwm C S (fun _ a S ha=>zwn C S (fun _ a S ha=>zuw C S a ha) a ha) a ha
end Go.Proofs.YtahbecinkciahaaGreat
