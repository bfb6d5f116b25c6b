/- Layer 30: Put of the program while it works: what lies in memory, what it leaves. -/
import Derived.Test.YtbcgnddpkiemoaaGreatSs9Q
import Derived.Test.YtbcgnddpkiemoaaGreatJtValidQ
import Derived.Test.YtbcgnddpkiemoaaGreatJtCopyQ
import Derived.Test.YtbcgnddpkiemoaaGreatVoFunQ
import Derived.StillTailTactics
import Derived.Test.YtbcgnddpkiemoaaGreatSbDecsQ
import Derived.RegionTactic
import Derived.ChangeAlike
import Derived.Deep.RegionHeld3
import Derived.Laws.CopyOwn
import Derived.Laws.MakeOwn
import Derived.Laws.OwnMore
import Derived.Lib.SliceRun
import Derived.Deep.LoopGhost
import Derived.Laws.BitsAllLaws
import Derived.Lib.AppendZeros
set_option linter.unusedVariables false
set_option linter.unusedSimpArgs false
set_option maxRecDepth 100000
set_option maxHeartbeats 12800000
namespace Go.Proofs.YtbcgnddpkiemoaaGreat
variable {g n c lo B mc base cn gl i sq c8 gc off:Nat} {A MA A1 A2 An A8:Option Addr} {l l1 l2:List TW} {WB W v1 v2 w W' w' wr wn w0 W5 X w7 w8:World} {v v0 v3 v4 v5:Value} {t e:TypeId} {m:Jb.Md} {now k8 AT hi ls mo kd b no:Int} {P:Program} {ops:Array Oper} {cs:Array Value} {T T':List Nat}
section
attribute [local go_sem ↓] zab zac
attribute [local go_sem] zaa zad
open Go.RowKit
structure PN (w W:World) (lo B:Nat) (s:Jb.Jt) (m:Jb.Md) (MA:Option Addr) (mc:Nat) (A1:Option Addr) (l1:List TW) (A2:Option Addr) (c2:Nat) (l2:List TW):Prop where
 S:PSt w W lo B (JL s A2 l2.length c2) (ML m MA m.pl.length mc) A1 l1 A2 l2.length c2 l2
 hq:l2.map TW.w=s.q
structure PI (s:Jb.Jt) (m:Jb.Md) (now:Int) (l2:List TW):Prop where
 nw:s.now=now
 n0:0≤now
 n1:now≤281474976710656
 t0 : -281474976710656≤m.ti
 t1:m.ti≤281474976710656
 la0:0≤s.late
 la1:s.late≤281474976710656
 tw0:0≤s.twice
 tw1:s.twice≤281474976710656
 sp0:0≤s.spread
 sp1:s.spread≤72057594037927936
 tr0 : -1125899906842624≤s.trans
 tr1:s.trans≤1125899906842624
 cf:Jb.cfg s.least s.most
 ok:Jb.okQ now s.high s.q
 z0 : -1125899906842624≤(Jb.meas s m).zero
 z1:(Jb.meas s m).zero≤1125899906842624
 f0 : -281474976710656≤(Jb.meas s m).first
 f1:(Jb.meas s m).first≤281474976710656
def PutP (T:Jb.Jt×Int) (D:List Jb.Wt) (w:World) (e:Ending) (w':World):Prop :=
 ∃ (A1:Option Addr) (c1:Nat) (l1:List TW) (A2:Option Addr) (c2:Nat) (l2:List TW),e = .returned (.tuple #[JV T.1 A2 l2.length c2, .slice A1 l1.length c1, .int .u8 T.2, .int .u8 0])∧l1.map TW.w=D∧l2.map TW.w=T.1.q∧WtsIn w' w.heap.size w'.heap.size A1 l1∧WtsIn w' w.heap.size w'.heap.size A2 l2∧l2.length≤c2∧c2≤maxLen∧Below w.heap.size w w'∧l1.length≤c1∧c1≤maxLen
section
variable {w W W':World} {lo B c1 c2 mc:Nat} {s:Jb.Jt} {m:Jb.Md} {MA A1 A2:Option Addr} {l1 l2:List TW} {T:Jb.Jt×Int}
theorem PN.later (h:PN w W lo B s m MA mc A1 l1 A2 c2 l2) (hb:Below W.heap.size W W'):PN w W' lo B s m MA mc A1 l1 A2 c2 l2:=⟨h.S.later hb,h.hq⟩
theorem PN.put (h:PN w W lo B s m MA mc A1 l1 A2 c2 l2) (i:Nat) (v:Value) (s':Jb.Jt) (A:(JL s A2 l2.length c2).set i v=JL s' A2 l2.length c2:=by rfl) (hq:s.q=s'.q:=by rfl):PN w (W.setCell ⟨w.heap.size,i,none⟩ v) lo B s' m MA mc A1 l1 A2 c2 l2:=⟨by have:=h.S.set i v;rw [A] at this;exact this,h.hq.trans hq⟩
theorem QOwn.onlyB (h:QOwn W B A n c l) (ho:OnlyB g W W') (hg:g<B):QOwn W' B A n c l :=
 ⟨h.len,ho.owns h.own hg,fun a C h0=>by
  obtain ⟨b,off,e,hlt,hc⟩:=h.pay a C h0
  have:=h.new a C h0 b off e
  exact ⟨b,off,e,by rw [ho.2];exact hlt,fun i hi=>(ho.cell (show b≠g by omega)).trans (hc i hi)⟩,h.far,h.new,h.cap⟩
theorem PN.box {s':Jb.Jt} (h:PN w W lo B s m MA mc A1 l1 A2 c2 l2) (ho:OnlyB w.heap.size W W') (hb:Blk W' w.heap.size 37 (JL s' A2 l2.length c2).toArray) (hq:s.q=s'.q):PN w W' lo B s' m MA mc A1 l1 A2 c2 l2:=by
 have h1:=h.S.lo1
 have h2:=h.S.lo2
 exact ⟨⟨hb,ho.blk h.S.bm (by omega),ho.blk h.S.br (by omega),ho.bel h.S.u (Nat.le_refl _),h.S.p1.keep fun p g1 g2=>ho.cell (by omega),h.S.q2.onlyB ho (by omega),h.S.lo1,h.S.lo2,by rw [ho.2];exact h.S.hB⟩,h.hq.trans hq⟩
theorem PN.done {v:Int} (h:PN w W lo B s m MA mc A1 l1 A2 c2 l2) (ho:OnlyB (w.heap.size+1+1) W WB) (D:l1.length≤c1) (C:c1≤maxLen) (A:T=(s,v)):PutP T (l1.map TW.w) w (.returned (.tuple #[JV s A2 l2.length c2, .slice A1 l1.length c1, .int .u8 v, .int .u8 0])) WB:=by
 subst A
 have h1:=h.S.lo1
 have h2:=h.S.lo2
 have h3:=h.S.hB
 have hs:=ho.2
 exact ⟨A1,c1,l1,A2,c2,l2,rfl,rfl,h.hq,((h.S.p1.keep fun p g1 g2=>ho.cell (by omega)).more (by omega)).less (by omega),((h.S.q2.wtsIn.keep fun p g1 g2=>ho.cell (by omega)).more (by omega)).less (by omega),h.S.q2.own.cap,Owns.capm h.S.q2.own,ho.bel h.S.u (by omega),D,C⟩
end
theorem ztv {v1 v2:Value} (h:Blk W g t #[v0,v1,v2,v3,v4,v5]):W.cell? ⟨g,0,none⟩=some v0∧W.cell? ⟨g,1,none⟩=some v1∧W.cell? ⟨g,2,none⟩=some v2∧W.cell? ⟨g,3,none⟩=some v3∧W.cell? ⟨g,4,none⟩=some v4∧W.cell? ⟨g,5,none⟩=some v5:=⟨h.at 0 _ rfl,h.at 1 _ rfl,h.at 2 _ rfl,h.at 3 _ rfl,h.at 4 _ rfl,h.at 5 _ rfl⟩
noncomputable def pn5_code:Code:=((Tryz.f64.body.bind (fromReg 5)).getD .skip)
noncomputable def pn14_code:Code:=((Tryz.f64.body.bind (fromReg 14)).getD .skip)
noncomputable def pn21_code:Code:=((Tryz.f64.body.bind (fromReg 21)).getD .skip)
theorem zuq {s:Jb.Jt} {c1:Nat} {c2:Nat} {T:Jb.Jt×Int} (S:PN w W lo B s m MA mc A1 l1 A2 c2 l2) (Cy:l1.length≤c1) (Hu:c1≤maxLen) (MI:IntsAt w w.heap.size .u8 MA m.pl) (Jr:m.pl.length≤100000) (Z:Jb.okQ now k8 s.q) (Y:(s.q.any fun w=>w.m.sq==m.sq)=false) (h:T=({ s with q:=Jb.ins s.q ⟨AT,m⟩ }, 1)) (a:Act) (ha:Fr 110 [(1, .int .i64 now),(3, .pointer (some ⟨w.heap.size,0,none⟩)),(5, .pointer (some ⟨w.heap.size+1,0,none⟩)),(6, .pointer (some ⟨w.heap.size+1+1,0,none⟩)),(11, .slice A1 l1.length c1),(13, .int .i64 AT)] a):firstWp Tryz.prog pn21_code (bodyPost Tryz.prog Tryz.f64 (PutP T (l1.map TW.w) w)) a W:=by
 obtain ⟨s_,rfl,o,n,l,j,x,p,_⟩:=ha
 simp only [rl9];rw [o,n,l,j,x,p]
 clear o n l j x p
 have Dd:l2.length≤200:=by have:=Z.1;rw [← S.hq] at this;simpa using this
 have N:=((Jb.okQ_iff _ _ _).1 Z).2.2.1
 have V:∀ y∈s.q,y.m.sq≠m.sq:=fun y hy e=>by
  rw [List.any_eq_false] at Y
  exact Y y hy (by simpa using e)
 rw [← S.hq] at N V
 have Yb:=Z9 N
 have vF:=Z9 V
 have HT:=Z9 h
 clear N V Z Y h
 refine zas ?_
 intro _ _
 go_wp2_with (first|(refine zaf rfl 183 (.tmp 5) rfl (w.heap.size+1) 0 rfl 183 (ML m MA m.pl.length mc) S.S.bm 5 _ Tryz.underlying183 zhg (show 0+5≤5 by decide) #[.int .i64 m.sq, .int .i64 m.ti, .bool m.mrk, .int .u8 m.ty, .slice MA m.pl.length mc] (by rfl) rfl ?_)|fail)
 refine (zdd m.sq m.ti m.mrk m.ty MA m.pl m.pl.length mc _ w.heap.size (Nat.le_of_lt (Nat.lt_of_le_of_lt (Nat.le_succ _) S.S.bm.lt)) (MI.below S.S.u) (by omega) rfl).mono ?_
 rintro e w7 ⟨A,c9,rfl,t,c,eY⟩
 have jE:=c.size
 have f:∀ g,ownB A2=some g→g<W.heap.size:=fun g hg=>(S.S.q2.own.block g hg).2
 have hB6:=S.S.hB
 replace S:=(S.later c).later ((Below.refl w7.heap.size w7).alloc (Nat.le_refl _) (.cells #[.int .i64 AT, .int .i64 m.sq, .int .i64 m.ti, .bool m.mrk, .int .u8 m.ty, .slice A m.pl.length c9] 220))
 have F:=Z9 (Blk.new w7 220 #[.int .i64 AT, .int .i64 m.sq, .int .i64 m.ti, .bool m.mrk, .int .u8 m.ty, .slice A m.pl.length c9])
 have C:=Z9 (t.push (.cells #[.int .i64 AT, .int .i64 m.sq, .int .i64 m.ti, .bool m.mrk, .int .u8 m.ty, .slice A m.pl.length c9] 220))
 clear c t
 go_upto_region 22 with fail
 have YN:=Nat.lt_of_le_of_lt jE F.out.lt
 generalize jQ:w7.heap.size=gx at *
 generalize w7.alloc _=W8 at *
 clear jQ
 have b10:=S.S.bs.at 10 (.slice A2 l2.length c2) rfl
 obtain ⟨x0,x1,L,K,J,I⟩:=ztv F.out
 go_wp2_with fail
 refine (zjs A2 l2 l2.length c2 ⟨AT,m⟩ A m.pl.length c9 _ rfl (by omega) S.S.q2.wts Yb.out vF.out).mono ?_
 rintro e w9 ⟨rfl,G⟩
 have R:=ztk (l2.map TW.w) ⟨AT,m⟩
 rw [List.length_map] at R
 have U:=zjr (l2.map TW.w) ⟨AT,m⟩
 generalize place (l2.map TW.w) ⟨AT,m⟩=D at R U ⊢
 have FH:=Z9 U
 replace S:=S.later G
 replace C:=Z9 (C.out.later G)
 replace F:=Z9 (F.out.later G)
 have YG:=G.size
 clear G U b10 x0 x1 L K J I
 go_upto_region 23 with fail
 have b10:=S.S.bs.at 10 (.slice A2 l2.length c2) rfl
 obtain ⟨x0,x1,L,K,J,I⟩:=ztv F.out
 replace S:=S.later ((Below.refl w9.heap.size w9).alloc (Nat.le_refl _) (.cells #[.int .i64 AT, .int .i64 m.sq, .int .i64 m.ti, .bool m.mrk, .int .u8 m.ty, .slice A m.pl.length c9] 220))
 have z:=Z9 (Blk.new w9 220 #[.int .i64 AT, .int .i64 m.sq, .int .i64 m.ti, .bool m.mrk, .int .u8 m.ty, .slice A m.pl.length c9])
 replace C:=Z9 (C.out.push (.cells #[.int .i64 AT, .int .i64 m.sq, .int .i64 m.ti, .bool m.mrk, .int .u8 m.ty, .slice A m.pl.length c9] 220))
 have tE:W.heap.size<w9.heap.size:=by omega
 have Yn:=S.S.bs.frozen
 go_wp2_with fail
 refine (zmw B l2.length c2 D w9.heap.size A2 l2 (⟨⟨AT,m⟩,A,c9⟩:TW) _ (by omega) S.S.hB S.S.q2 R z.out (fun e=>by have i:=f _ e.symm;omega) C.out.1 (fun h0 b off e he=>by have i:=C.out.2 h0 b off e;have h8:=f b he.symm;omega) (fun h0 b off e=>by have i:=C.out.2 h0 b off e;omega) eY).mono ?_
 rintro e lM ⟨E,c3,rfl,M,Q⟩
 have d:(l2.take D++(⟨⟨AT,m⟩,A,c9⟩:TW)::l2.drop D).map TW.w=Jb.ins s.q ⟨AT,m⟩:=by rw [← S.hq,FH.out,List.map_append,List.map_cons,List.map_take,List.map_drop]
 have X:(l2.take D++(⟨⟨AT,m⟩,A,c9⟩:TW)::l2.drop D).length=l2.length+1:=M.len
 have H:=S.S.ins Q M
 generalize (l2.take D++(⟨⟨AT,m⟩,A,c9⟩:TW)::l2.drop D)=l3 at *
 clear Q M S b10 x0 x1 L K J I z C F Yn
 have b10:=H.bs.at 10 (.slice A2 l2.length c2) rfl
 have Jl:=H.bs.frozen
 go_upto_region 24 with fail
 have O:=H.set 10 (.slice E (l2.length+1) c3)
 rw [← X] at O
 rw [← X]
 have S:PN w _ lo B { s with q:=Jb.ins s.q ⟨AT,m⟩ } m MA mc A1 l1 E c3 l3:=⟨O,d⟩
 clear O H b10 Jl X d
 generalize lM.setCell _ _=W12 at S ⊢
 go_wp2_with (first|(refine zaf rfl 37 (.tmp 3) rfl (w.heap.size) 0 rfl 37 (JL { s with q:=Jb.ins s.q ⟨AT,m⟩ } E l3.length c3) S.S.bs 14 _ Tryz.underlying37 zar (show 0+14≤14 by decide) (JL { s with q:=Jb.ins s.q ⟨AT,m⟩ } E l3.length c3).toArray (by rfl) rfl ?_)|(refine zag rfl 37 (.tmp 6) (.tmp 108) rfl (w.heap.size+1+1) 0 rfl 37 Z14 S.S.br (JL { s with q:=Jb.ins s.q ⟨AT,m⟩ } E l3.length c3) rfl zar (show 0+14≤14 by decide) rfl (JL { s with q:=Jb.ins s.q ⟨AT,m⟩ } E l3.length c3) rfl ?_;intro WB BB OB)|fail)
 exact bodyPost_ret (v := .tuple #[JV { s with q:=Jb.ins s.q ⟨AT,m⟩ } E l3.length c3, .slice A1 l1.length c1, .int .u8 1, .int .u8 0]) (zbp Tryz.results64 rfl (run_loadVar_row (P:=Tryz.prog) _ _ _ _ _ _ _ BB Tryz.underlying37 rfl (by kernel_rfl)) rfl rfl rfl) rfl (S.done OB Cy Hu HT.out)
theorem zlp (s:Jb.Jt) (m:Jb.Md) (now:Int) (hn:s.now=now) (h0:(s.q.any fun w=>w.m.sq==m.sq)=false) (h1:¬(s.on=true∧m.sq≤s.done)) (h2:¬200≤s.q.length):Jb.put0 s m=tailT (Jb.meas s m) m now:=by
 subst hn
 exact zqi s m h0 h1 h2 _ _ rfl rfl
theorem znp {s:Jb.Jt} {c1:Nat} {c2:Nat} {T:Jb.Jt×Int} (S:PN w W lo B s m MA mc A1 l1 A2 c2 l2) (X:l1.length≤c1) (U:c1≤maxLen) (I:PI s m now l2) (MI:IntsAt w w.heap.size .u8 MA m.pl) (Jr:m.pl.length≤100000) (M:(s.q.any fun w=>w.m.sq==m.sq)=false) (R:T=tailT (Jb.meas s m) m now) (a:Act) (O:Fr 110 [(1, .int .i64 now),(3, .pointer (some ⟨w.heap.size,0,none⟩)),(5, .pointer (some ⟨w.heap.size+1,0,none⟩)),(6, .pointer (some ⟨w.heap.size+1+1,0,none⟩)),(11, .slice A1 l1.length c1)] a):firstWp Tryz.prog pn14_code (bodyPost Tryz.prog Tryz.f64 (PutP T (l1.map TW.w) w)) a W:=by
 obtain ⟨s_,rfl,h,g,f,d,o,_⟩:=O
 simp only [rl9];rw [h,g,f,d,o]
 clear h g f d o
 have Dd:l2.length≤200:=by have:=I.ok.1;rw [← S.hq] at this;simpa using this
 have n:∀ a∈l2,0≤a.w.at_∧a.w.at_≤562949953421312:=fun a O=>by
  have c:=((Jb.okQ_iff _ _ _).1 I.ok).2.1 a.w (by rw [← S.hq];exact List.mem_map.2 ⟨a,O,rfl⟩)
  have h8:=c.2.1
  have h7:=c.2.2.1
  have h6:=I.n0
  omega
 obtain ⟨G,XE,H,XD,XC,XB⟩:=Jb.meas_q s m
 obtain ⟨A,Y⟩:=nm9 (Jb.meas s m)
 have hz:=And.intro (And.intro I.z0 I.z1) (And.intro I.f0 I.f1)
 have K:=I.ok
 rw [← G] at K M
 rw [← Y] at G H R hz K M
 have J:=fun (W:World) (y:Wts W W.heap.size A2 l2)=>zjw s.least s.most s.now s.on s.zero s.first s.high s.done s.spread s.trans A2 l2 l2.length c2 s.late s.twice s.played m.sq m.ti m.mrk m.ty MA m.pl.length mc W rfl Dd y (by rw [I.nw];exact I.n0) (by rw [I.nw];exact I.n1) I.t0 I.t1 I.tr0 I.tr1 I.sp0 I.sp1 I.cf.1 I.cf.2.1 I.cf.2.2 n m.pl
 unfold MeasR at J
 rw [S.hq] at J
 have b:∀ (W:World),Wts W W.heap.size A2 l2→Calls Tryz.prog 96 #[.agg #[.int .i64 s.least, .int .i64 s.most, .int .i64 s.now, .bool s.on, .int .i64 s.zero, .int .i64 s.first, .int .i64 s.high, .int .i64 s.done, .int .i64 s.spread, .int .i64 s.trans, .slice A2 l2.length c2, .int .i64 s.late, .int .i64 s.twice, .int .i64 s.played], .agg #[.int .i64 m.sq, .int .i64 m.ti, .bool m.mrk, .int .u8 m.ty, .slice MA m.pl.length mc]] W fun e w'=>e = .returned (JV A A2 l2.length c2)∧Below W.heap.size W w':=by rw [Y];exact J
 have l:=Z9 b
 have la0:0≤A.late:=by rw [H];exact I.la0
 have la1:A.late≤281474976710656:=by rw [H];exact I.la1
 have C:=Z9 R
 have HQ:=Z9 G
 have HO:=Z9 K
 have HA:=Z9 M
 have HM:=Z9 MI
 obtain ⟨n0,n1,t0,t1⟩:0≤now∧now≤281474976710656 ∧ -281474976710656≤m.ti∧m.ti≤281474976710656:=⟨I.n0,I.n1,I.t0,I.t1⟩
 obtain ⟨⟨z0,z1⟩,f0,f1⟩:=hz
 clear R G XE H XD XC XB Y J b K M MI n I
 refine zas ?_
 intro _ _
 go_wp2_with (first|(refine zaf rfl 37 (.tmp 3) rfl (w.heap.size) 0 rfl 37 (JL s A2 l2.length c2) S.S.bs 14 _ Tryz.underlying37 zar (show 0+14≤14 by decide) #[.int .i64 s.least, .int .i64 s.most, .int .i64 s.now, .bool s.on, .int .i64 s.zero, .int .i64 s.first, .int .i64 s.high, .int .i64 s.done, .int .i64 s.spread, .int .i64 s.trans, .slice A2 l2.length c2, .int .i64 s.late, .int .i64 s.twice, .int .i64 s.played] (by rfl) rfl ?_)|(refine zaf rfl 183 (.tmp 5) rfl (w.heap.size+1) 0 rfl 183 (ML m MA m.pl.length mc) S.S.bm 5 _ Tryz.underlying183 zhg (show 0+5≤5 by decide) #[.int .i64 m.sq, .int .i64 m.ti, .bool m.mrk, .int .u8 m.ty, .slice MA m.pl.length mc] (by rfl) rfl ?_)|fail)
 refine (l.out _ S.S.q2.wts).mono ?_
 rintro e w5 ⟨rfl,i⟩
 replace S:=S.later i
 clear i l
 unfold JV
 go_upto_region 15 with (first|(refine zag rfl 37 (.tmp 3) (.tmp 68) rfl (w.heap.size) 0 rfl 37 (JL s A2 l2.length c2) S.S.bs (JL A A2 l2.length c2) rfl zar (show 0+14≤14 by decide) rfl (JL A A2 l2.length c2) rfl ?_;intro WB E D)|fail)
 replace S:=S.box (s':=A) D E HQ.out.symm
 clear D E
 generalize V:A.zero+(m.ti-A.first) / 8=AT
 have N:=Z9 (zeb A.least A.most A.now A.on A.zero A.first A.high A.done A.spread A.trans A2 l2.length c2 A.late A.twice A.played m.ti WB z0 z1 f0 f1 t0 t1)
 rw [V] at N
 have Z:Jb.ptime A m.ti=AT:=V
 unfold tailT at C
 rw [Z] at C
 have Q : -1200000000000000≤AT∧AT≤1200000000000000:=by omega
 clear V Z
 obtain ⟨at0,z⟩:=Q
 have u:=S.S.bm.at 1 (.int .i64 m.ti) rfl
 go_wp2_with (first|(refine zaf rfl 37 (.tmp 3) rfl (w.heap.size) 0 rfl 37 (JL A A2 l2.length c2) S.S.bs 14 _ Tryz.underlying37 zar (show 0+14≤14 by decide) #[.int .i64 A.least, .int .i64 A.most, .int .i64 A.now, .bool A.on, .int .i64 A.zero, .int .i64 A.first, .int .i64 A.high, .int .i64 A.done, .int .i64 A.spread, .int .i64 A.trans, .slice A2 l2.length c2, .int .i64 A.late, .int .i64 A.twice, .int .i64 A.played] (by rfl) rfl ?_)|fail)
 refine N.out.mono ?_
 rintro e p ⟨rfl,j⟩
 replace S:=S.later j
 clear j N u
 by_cases F:AT≤now
 · have ht:T=({ A with late:=A.late+1 }, 2):=by rw [C.out];exact if_pos F
   clear C
   have C:=Z9 ht
   have x:A.late+1≤9000000000000000000:=by omega
   clear ht
   have t:=S.S.bs.at 11 (.int .i64 (A).late) rfl
   have Jl:=S.S.bs.frozen
   go_upto_region 18 with fail
   clear t Jl
   replace S:=S.put 11 (.int .i64 (A.late+1)) { A with late:=A.late+1 }
   generalize p.setCell _ _=W8 at S ⊢
   go_wp2_with (first|(refine zaf rfl 37 (.tmp 3) rfl (w.heap.size) 0 rfl 37 (JL { A with late:=A.late+1 } A2 l2.length c2) S.S.bs 14 _ Tryz.underlying37 zar (show 0+14≤14 by decide) (JL { A with late:=A.late+1 } A2 l2.length c2).toArray (by rfl) rfl ?_)|(refine zag rfl 37 (.tmp 6) (.tmp 81) rfl (w.heap.size+1+1) 0 rfl 37 Z14 S.S.br (JL { A with late:=A.late+1 } A2 l2.length c2) rfl zar (show 0+14≤14 by decide) rfl (JL { A with late:=A.late+1 } A2 l2.length c2) rfl ?_;intro WB E D)|fail)
   exact bodyPost_ret (v := .tuple #[JV { A with late:=A.late+1 } A2 l2.length c2, .slice A1 l1.length c1, .int .u8 2, .int .u8 0]) (zbp Tryz.results64 rfl (run_loadVar_row (P:=Tryz.prog) _ _ _ _ _ _ _ E Tryz.underlying37 rfl (by kernel_rfl)) rfl rfl rfl) rfl (S.done D X U C.out)
 replace F:now<AT:=Int.not_le.1 F
 by_cases L:now+120000<AT
 · have ht:T=(A,5):=by rw [C.out];rw [if_neg (Int.not_le.2 F)];exact if_pos L
   clear C
   have C:=Z9 ht
   clear ht
   go_wp2_with (first|(refine zaf rfl 37 (.tmp 3) rfl (w.heap.size) 0 rfl 37 (JL A A2 l2.length c2) S.S.bs 14 _ Tryz.underlying37 zar (show 0+14≤14 by decide) (JL A A2 l2.length c2).toArray (by rfl) rfl ?_)|(refine zag rfl 37 (.tmp 6) (.tmp 88) rfl (w.heap.size+1+1) 0 rfl 37 Z14 S.S.br (JL A A2 l2.length c2) rfl zar (show 0+14≤14 by decide) rfl (JL A A2 l2.length c2) rfl ?_;intro WB E D)|fail)
   exact bodyPost_ret (v := .tuple #[JV A A2 l2.length c2, .slice A1 l1.length c1, .int .u8 5, .int .u8 0]) (zbp Tryz.results64 rfl (run_loadVar_row (P:=Tryz.prog) _ _ _ _ _ _ _ E Tryz.underlying37 rfl (by kernel_rfl)) rfl rfl rfl) rfl (S.done D X U C.out)
 replace L:AT≤now+120000:=Int.not_lt.1 L
 have ht:T=({ A with q:=Jb.ins A.q ⟨AT,m⟩ }, 1):=by rw [C.out];rw [if_neg (Int.not_le.2 F)];exact if_neg (Int.not_lt.2 L)
 clear C
 have C:=Z9 ht
 clear ht
 go_upto_region 21 with fail
 refine zao (by assumption) ?_
 exact zuq S X U HM.out Jr HO.out HA.out C.out _ (Fr.mk rfl ⟨rfl,rfl,rfl,rfl,rfl,rfl,trivial⟩)
theorem zww {s:Jb.Jt} {c1:Nat} {c2:Nat} {T:Jb.Jt×Int} (S:PN w W lo B s m MA mc A1 l1 A2 c2 l2) (K:l1.length≤c1) (G:c1≤maxLen) (I:PI s m now l2) (MI:IntsAt w w.heap.size .u8 MA m.pl) (l:m.pl.length≤100000) (c:T=Jb.put0 s m) (a:Act) (p:Fr 110 [(1, .int .i64 now),(3, .pointer (some ⟨w.heap.size,0,none⟩)),(5, .pointer (some ⟨w.heap.size+1,0,none⟩)),(6, .pointer (some ⟨w.heap.size+1+1,0,none⟩)),(11, .slice A1 l1.length c1)] a):firstWp Tryz.prog pn5_code (bodyPost Tryz.prog Tryz.f64 (PutP T (l1.map TW.w) w)) a W:=by
 obtain ⟨u,rfl,h,g,f,d,o,_⟩:=p
 simp only [rl9];rw [h,g,f,d,o]
 clear h g f d o
 have y:l2.length≤200:=by have:=I.ok.1;rw [← S.hq] at this;simpa using this
 have F:s.q.length=l2.length:=by rw [← S.hq,List.length_map]
 have E:=zhs A2 l2 l2.length c2 (w.heap.size+1) m.sq W rfl (by omega) S.S.q2.wts (S.S.bm.at 0 _ rfl) S.S.bm.lt
 rw [S.hq] at E
 obtain ⟨V,Y⟩:=nm9 ((s.q.any fun x=>x.m.sq==m.sq))
 rw [← Y] at E
 replace E:=Z9 E
 have tw0:=I.tw0
 have tw1:s.twice+1≤9000000000000000000:=Int.le_trans (Int.add_le_add_right I.tw1 1) (by decide)
 have la0:=I.la0
 have la1:s.late+1≤9000000000000000000:=Int.le_trans (Int.add_le_add_right I.la1 1) (by decide)
 have X:=Z9 I
 have H:=Z9 Y.symm
 have A:=Z9 c
 have n:=Z9 MI
 clear I Y c MI
 refine zas ?_
 intro _ _
 have b10:=S.S.bs.at 10 (.slice A2 l2.length c2) rfl
 go_wp2_with fail
 refine E.out.mono ?_
 rintro e w4 ⟨rfl,j⟩
 replace S:=S.later j
 clear j E b10
 cases V
 rotate_left
 · have ht:T=({ s with twice:=s.twice+1 }, 3):=by rw [A.out];exact zmx s m H.out
   clear A
   have A:=Z9 ht
   clear ht F
   have t:=S.S.bs.at 12 (.int .i64 s.twice) rfl
   have M:=S.S.bs.frozen
   go_upto_region 8 with fail
   clear t M
   replace S:=S.put 12 (.int .i64 (s.twice+1)) { s with twice:=s.twice+1 }
   generalize w4.setCell _ _=W8 at S ⊢
   go_wp2_with (first|(refine zaf rfl 37 (.tmp 3) rfl (w.heap.size) 0 rfl 37 (JL { s with twice:=s.twice+1 } A2 l2.length c2) S.S.bs 14 _ Tryz.underlying37 zar (show 0+14≤14 by decide) (JL { s with twice:=s.twice+1 } A2 l2.length c2).toArray (by rfl) rfl ?_)|(refine zag rfl 37 (.tmp 6) (.tmp 41) rfl (w.heap.size+1+1) 0 rfl 37 Z14 S.S.br (JL { s with twice:=s.twice+1 } A2 l2.length c2) rfl zar (show 0+14≤14 by decide) rfl (JL { s with twice:=s.twice+1 } A2 l2.length c2) rfl ?_;intro WB D C)|fail)
   exact bodyPost_ret (v := .tuple #[JV { s with twice:=s.twice+1 } A2 l2.length c2, .slice A1 l1.length c1, .int .u8 3, .int .u8 0]) (zbp Tryz.results64 rfl (run_loadVar_row (P:=Tryz.prog) _ _ _ _ _ _ _ D Tryz.underlying37 rfl (by kernel_rfl)) rfl rfl rfl) rfl (S.done C K G A.out)
 obtain ⟨on,J⟩:=nm9 s.on
 have b3:w4.cell? ⟨w.heap.size,3,none⟩=some (.bool on):=by rw [J];exact S.S.bs.at 3 _ rfl
 have U:=S.S.bs.at 7 (.int .i64 s.done) rfl
 have b10:=S.S.bs.at 10 (.slice A2 l2.length c2) rfl
 have O:=S.S.bs.at 11 (.int .i64 s.late) rfl
 have R:=S.S.bm.at 0 (.int .i64 m.sq) rfl
 have M:=S.S.bs.frozen
 by_cases L:on=true∧m.sq≤s.done
 · have ht:T=({ s with late:=s.late+1 }, 2):=by rw [A.out];exact zqg s m H.out (by rw [← J];exact L)
   clear A
   have A:=Z9 ht
   clear ht J F
   obtain ⟨rfl,N⟩:=L
   go_upto_region 11 with fail
   clear b3 U R b10 O M
   replace S:=S.put 11 (.int .i64 (s.late+1)) { s with late:=s.late+1 }
   generalize w4.setCell _ _=W8 at S ⊢
   go_wp2_with (first|(refine zaf rfl 37 (.tmp 3) rfl (w.heap.size) 0 rfl 37 (JL { s with late:=s.late+1 } A2 l2.length c2) S.S.bs 14 _ Tryz.underlying37 zar (show 0+14≤14 by decide) (JL { s with late:=s.late+1 } A2 l2.length c2).toArray (by rfl) rfl ?_)|(refine zag rfl 37 (.tmp 6) (.tmp 57) rfl (w.heap.size+1+1) 0 rfl 37 Z14 S.S.br (JL { s with late:=s.late+1 } A2 l2.length c2) rfl zar (show 0+14≤14 by decide) rfl (JL { s with late:=s.late+1 } A2 l2.length c2) rfl ?_;intro WB D C)|fail)
   exact bodyPost_ret (v := .tuple #[JV { s with late:=s.late+1 } A2 l2.length c2, .slice A1 l1.length c1, .int .u8 2, .int .u8 0]) (zbp Tryz.results64 rfl (run_loadVar_row (P:=Tryz.prog) _ _ _ _ _ _ _ D Tryz.underlying37 rfl (by kernel_rfl)) rfl rfl rfl) rfl (S.done C K G A.out)
 have hlt:¬(s.on=true∧m.sq≤s.done):=by rw [← J];exact L
 have N:on=true→¬m.sq≤s.done:=fun h1 h2=>L ⟨h1,h2⟩
 have i:=Z9 N
 clear N L
 by_cases b:200≤l2.length
 · have ht:T=(s,4):=by rw [A.out];exact zqh s m H.out hlt (by rw [F];exact b)
   clear A
   have A:=Z9 ht
   have Z:(200:Int)≤(l2.length:Int):=by omega
   clear ht J F hlt
   cases on
   · go_upto_region 13 with fail
     clear b3 U R b10 O M Z
     go_wp2_with (first|(refine zaf rfl 37 (.tmp 3) rfl (w.heap.size) 0 rfl 37 (JL s A2 l2.length c2) S.S.bs 14 _ Tryz.underlying37 zar (show 0+14≤14 by decide) (JL s A2 l2.length c2).toArray (by rfl) rfl ?_)|(refine zag rfl 37 (.tmp 6) (.tmp 64) rfl (w.heap.size+1+1) 0 rfl 37 Z14 S.S.br (JL s A2 l2.length c2) rfl zar (show 0+14≤14 by decide) rfl (JL s A2 l2.length c2) rfl ?_;intro WB D C)|fail)
     exact bodyPost_ret (v := .tuple #[JV s A2 l2.length c2, .slice A1 l1.length c1, .int .u8 4, .int .u8 0]) (zbp Tryz.results64 rfl (run_loadVar_row (P:=Tryz.prog) _ _ _ _ _ _ _ D Tryz.underlying37 rfl (by kernel_rfl)) rfl rfl rfl) rfl (S.done C K G A.out)
   · have N:=i.out rfl
     go_upto_region 13 with fail
     clear b3 U R b10 O M Z
     go_wp2_with (first|(refine zaf rfl 37 (.tmp 3) rfl (w.heap.size) 0 rfl 37 (JL s A2 l2.length c2) S.S.bs 14 _ Tryz.underlying37 zar (show 0+14≤14 by decide) (JL s A2 l2.length c2).toArray (by rfl) rfl ?_)|(refine zag rfl 37 (.tmp 6) (.tmp 64) rfl (w.heap.size+1+1) 0 rfl 37 Z14 S.S.br (JL s A2 l2.length c2) rfl zar (show 0+14≤14 by decide) rfl (JL s A2 l2.length c2) rfl ?_;intro WB D C)|fail)
     exact bodyPost_ret (v := .tuple #[JV s A2 l2.length c2, .slice A1 l1.length c1, .int .u8 4, .int .u8 0]) (zbp Tryz.results64 rfl (run_loadVar_row (P:=Tryz.prog) _ _ _ _ _ _ _ D Tryz.underlying37 rfl (by kernel_rfl)) rfl rfl rfl) rfl (S.done C K G A.out)
 have ht:T=tailT (Jb.meas s m) m now:=by rw [A.out];exact zlp s m now X.out.nw H.out hlt (by rw [F];exact b)
 clear A
 have A:=Z9 ht
 have Z:(l2.length:Int)<(200:Int):=by omega
 clear ht J F hlt
 cases on
 · go_upto_region 14 with fail
   refine zao (by assumption) ?_
   exact znp S K G X.out n.out l H.out A.out _ (Fr.mk rfl ⟨rfl,rfl,rfl,rfl,rfl,trivial⟩)
 · have N:=i.out rfl
   go_upto_region 14 with fail
   refine zao (by assumption) ?_
   exact znp S K G X.out n.out l H.out A.out _ (Fr.mk rfl ⟨rfl,rfl,rfl,rfl,rfl,trivial⟩)
structure PB0 (w W:World) (s:Jb.Jt) (A:Option Addr) (n c:Nat) (m:Jb.Md) (MA:Option Addr) (mc:Nat):Prop where
 bs:Blk W w.heap.size 37 (JL s A n c).toArray
 bm:Blk W (w.heap.size+1) 183 (ML m MA m.pl.length mc).toArray
 br:Blk W (w.heap.size+1+1) 37 Z14.toArray
 u:Bel w W
theorem PB0.later {s:Jb.Jt} (h:PB0 w W s A n c m MA mc) (hb:Below W.heap.size W W'):PB0 w W' s A n c m MA mc:=⟨h.bs.later hb,h.bm.later hb,h.br.later hb,h.u.later hb⟩
def RunX (X:Jb.Jt) (D:List Jb.Wt) (w:World) (e:Ending) (w':World):Prop :=
 ∃ (A1:Option Addr) (c1:Nat) (l1:List TW) (A2:Option Addr) (c2:Nat) (l2:List TW) (B:Nat),e = .returned (.tuple #[JV X A2 l2.length c2, .slice A1 l1.length c1])∧l1.map TW.w=D∧l2.map TW.w=X.q∧WtsIn w' w.heap.size B A1 l1∧QOwn w' B A2 l2.length c2 l2∧w.heap.size≤B∧B≤w'.heap.size∧(l1.length≤c1∧c1≤maxLen)∧Below w.heap.size w w'
theorem PutP.of {T:Jb.Jt×Int} {D:List Jb.Wt} {s:Jb.Jt} {e:Ending} (h:PutP T D w e w') (hp:Jb.put s now m=(T.1,D,T.2,0)):JPutW s now m w e w':=by
 obtain ⟨A1,c1,l1,A2,c2,l2,rfl,h1,h2,h3⟩:=h
 exact ⟨A1,c1,l1,A2,c2,l2,by rw [hp],by rw [hp];exact h1,by rw [hp];exact h2,h3⟩
theorem zur (s:Jb.Jt) (A:Option Addr) (l:List TW) (c:Nat) (now:Int) (m:Jb.Md) (MA:Option Addr) (mc:Nat) (w:World) (hq:l.map TW.w=s.q) (hl:l.length≤100000) (M:l.length≤c) (K:c≤maxLen) (F:Wts w w.heap.size A l) (E:∀ a∈l,I64 a.w.m.sq) (N:m.pl.length≤100000) (I:IntsAt w w.heap.size .u8 MA m.pl) (r:Int) (hr:r=Jb.chk s now (decide m.ok)) (C:¬r=0):Calls Tryz.prog 64 #[.agg #[.int .i64 s.least, .int .i64 s.most, .int .i64 s.now, .bool s.on, .int .i64 s.zero, .int .i64 s.first, .int .i64 s.high, .int .i64 s.done, .int .i64 s.spread, .int .i64 s.trans, .slice A l.length c, .int .i64 s.late, .int .i64 s.twice, .int .i64 s.played], .int .i64 now, .agg #[.int .i64 m.sq, .int .i64 m.ti, .bool m.mrk, .int .u8 m.ty, .slice MA m.pl.length mc]] w (JPutW s now m w):=by
 have G:Jb.put s now m=(Jb.Jt.none,[],0,r):=by unfold Jb.put;rw [← hr,if_neg C]
 have B:=Z9 G
 clear G
 have S:PB0 w (((w.alloc (.cells #[.int .i64 s.least, .int .i64 s.most, .int .i64 s.now, .bool s.on, .int .i64 s.zero, .int .i64 s.first, .int .i64 s.high, .int .i64 s.done, .int .i64 s.spread, .int .i64 s.trans, .slice A l.length c, .int .i64 s.late, .int .i64 s.twice, .int .i64 s.played] 37)).alloc (.cells #[.int .i64 m.sq, .int .i64 m.ti, .bool m.mrk, .int .u8 m.ty, .slice MA m.pl.length mc] 183)).alloc (.cells Z14.toArray 37)) s A l.length c m MA mc:=⟨((Blk.new w _ _).push _).push _,(Blk.new1 _ _ _ _).push _,Blk.new2 _ _ _ _ _,(((Bel.refl w).push _).push _).push _⟩
 have k1:=Z9 fun (W:World) (D:Bel w W)=>zfk s.least s.most s.now s.on s.zero s.first s.high s.done s.spread s.trans A l l.length c s.late s.twice s.played now m.sq m.ti m.mrk m.ty MA m.pl.length mc W rfl hl ((F.below D).more D.size) E (decide m.ok) rfl r (by rw [hq];exact hr)
 have O:(r != 0)=true:=by simpa using C
 clear hr F I E M K C
 go_enter Tryz.func64,Tryz.ntmps64
 go_upto_region 1 with fail
 change Code.wp _ _ _ _ (((w.alloc (.cells #[.int .i64 s.least, .int .i64 s.most, .int .i64 s.now, .bool s.on, .int .i64 s.zero, .int .i64 s.first, .int .i64 s.high, .int .i64 s.done, .int .i64 s.spread, .int .i64 s.trans, .slice A l.length c, .int .i64 s.late, .int .i64 s.twice, .int .i64 s.played] 37)).alloc (.cells #[.int .i64 m.sq, .int .i64 m.ti, .bool m.mrk, .int .u8 m.ty, .slice MA m.pl.length mc] 183)).alloc (.cells Z14.toArray 37))
 generalize ((w.alloc _).alloc _).alloc _=W0 at S ⊢
 go_wp2_with (first|(refine zaf rfl 37 (.tmp 3) rfl (w.heap.size) 0 rfl 37 (JL s A l.length c) S.bs 14 _ Tryz.underlying37 zar (show 0+14≤14 by decide) #[.int .i64 s.least, .int .i64 s.most, .int .i64 s.now, .bool s.on, .int .i64 s.zero, .int .i64 s.first, .int .i64 s.high, .int .i64 s.done, .int .i64 s.spread, .int .i64 s.trans, .slice A l.length c, .int .i64 s.late, .int .i64 s.twice, .int .i64 s.played] (by rfl) rfl ?_)|(refine zaf rfl 183 (.tmp 5) rfl (w.heap.size+1) 0 rfl 183 (ML m MA m.pl.length mc) S.bm 5 _ Tryz.underlying183 zhg (show 0+5≤5 by decide) #[.int .i64 m.sq, .int .i64 m.ti, .bool m.mrk, .int .u8 m.ty, .slice MA m.pl.length mc] (by rfl) rfl ?_)|fail)
 refine (k1.out _ S.u).mono ?_
 rintro e w1 ⟨rfl,H⟩
 replace S:=S.later H
 clear H k1
 go_wp2_with (first|(refine zag rfl 37 (.tmp 6) (.tmp 23) rfl (w.heap.size+1+1) 0 rfl 37 Z14 S.br Z14 rfl zar (show 0+14≤14 by decide) rfl Z14 rfl ?_;intro WB L J)|fail)
 exact bodyPost_ret (v := .tuple #[JV Jb.Jt.none none 0 0, .slice none 0 0, .int .u8 0, .int .u8 r]) (zbp Tryz.results64 rfl (run_loadVar_row (P:=Tryz.prog) _ _ _ _ _ _ _ L Tryz.underlying37 rfl (by kernel_rfl)) rfl rfl rfl) rfl ⟨none,0,[],none,0,[],by rw [B.out];rfl,by rw [B.out];rfl,by rw [B.out];rfl,WtsIn.empty,WtsIn.empty,Nat.le_refl _,Nat.zero_le _,J.bel S.u (by omega),Nat.le_refl _,Nat.zero_le _⟩
theorem zrd (s:Jb.Jt) (A:Option Addr) (l:List TW) (c:Nat) (now:Int) (m:Jb.Md) (MA:Option Addr) (mc:Nat) (w:World) (hq:l.map TW.w=s.q) (hl:l.length≤100000) (d:l.length≤c) (Y:c≤maxLen) (J:Wts w w.heap.size A l) (N:∀ a∈l,I64 a.w.m.sq) (Jr:m.pl.length≤100000) (O:IntsAt w w.heap.size .u8 MA m.pl) (hr:Jb.chk s now (decide m.ok)=0):Calls Tryz.prog 64 #[.agg #[.int .i64 s.least, .int .i64 s.most, .int .i64 s.now, .bool s.on, .int .i64 s.zero, .int .i64 s.first, .int .i64 s.high, .int .i64 s.done, .int .i64 s.spread, .int .i64 s.trans, .slice A l.length c, .int .i64 s.late, .int .i64 s.twice, .int .i64 s.played], .int .i64 now, .agg #[.int .i64 m.sq, .int .i64 m.ti, .bool m.mrk, .int .u8 m.ty, .slice MA m.pl.length mc]] w (PutP (Jb.put0 (Jb.run0 s now) m) (Jb.due now s.q) w):=by
 have S:PB0 w (((w.alloc (.cells #[.int .i64 s.least, .int .i64 s.most, .int .i64 s.now, .bool s.on, .int .i64 s.zero, .int .i64 s.first, .int .i64 s.high, .int .i64 s.done, .int .i64 s.spread, .int .i64 s.trans, .slice A l.length c, .int .i64 s.late, .int .i64 s.twice, .int .i64 s.played] 37)).alloc (.cells #[.int .i64 m.sq, .int .i64 m.ti, .bool m.mrk, .int .u8 m.ty, .slice MA m.pl.length mc] 183)).alloc (.cells Z14.toArray 37)) s A l.length c m MA mc:=⟨((Blk.new w _ _).push _).push _,(Blk.new1 _ _ _ _).push _,Blk.new2 _ _ _ _ _,(((Bel.refl w).push _).push _).push _⟩
 have k1:=Z9 fun (W:World) (C:Bel w W)=>zfk s.least s.most s.now s.on s.zero s.first s.high s.done s.spread s.trans A l l.length c s.late s.twice s.played now m.sq m.ti m.mrk m.ty MA m.pl.length mc W rfl hl ((J.below C).more C.size) N (decide m.ok) rfl 0 (by rw [hq];exact hr.symm)
 obtain ⟨H,L,R,hlt⟩:=zld hr
 have K:m.ok:=decide_eq_true_iff.1 R
 have E:=zqf s m now H K hlt L
 obtain ⟨Z,V⟩:=zle (l:=l) H hq
 have G:=fun (W:World) (C:Bel w W)=>zqb s.least s.most s.now s.on s.zero s.first s.high s.done s.spread s.trans A l l.length c s.late s.twice s.played now W rfl Z d Y W.heap.size (Nat.le_refl _) ((J.below C).more C.size) (fun a i=>Nat.le_trans (V a i) (by omega)) (by have:=H.2.2.1.2.2;omega)
 have I:∀ (W:World),Bel w W→Calls Tryz.prog 93 #[.agg #[.int .i64 s.least, .int .i64 s.most, .int .i64 s.now, .bool s.on, .int .i64 s.zero, .int .i64 s.first, .int .i64 s.high, .int .i64 s.done, .int .i64 s.spread, .int .i64 s.trans, .slice A l.length c, .int .i64 s.late, .int .i64 s.twice, .int .i64 s.played], .int .i64 now] W (RunX (Jb.run0 s now) (Jb.due now s.q) W):=fun W C=>by
  have h:=G W C
  rw [hq] at h
  exact h
 unfold RunX at I
 clear G
 have G:=Z9 I
 clear I
 have U:∀ l2:List TW,PI (Jb.run0 s now) m now l2:=fun l2=>by
  obtain ⟨⟨⟨a0,a1⟩,⟨a2,a3⟩,⟨z,y⟩,⟨a6,a7⟩,_,_,x,v⟩,cc,⟨⟨t,d1⟩,⟨o,n⟩,_⟩,_⟩:=H
  obtain ⟨_,⟨j,g1⟩,_⟩:=K
  exact ⟨rfl,Int.le_trans a0 hlt,L,j,g1,t,d1,o,n,x,v,z,y,cc,E.2.2,E.1.1,E.1.2,E.2.1.1,E.2.1.2⟩
 have HI:=Z9 U
 have g:=Z9 O
 generalize Jb.run0 s now=X at *
 generalize Jb.due now s.q=D at *
 clear hr J O N d Y H L K hlt R E U Z V
 go_enter Tryz.func64,Tryz.ntmps64
 go_upto_region 1 with fail
 change Code.wp _ _ _ _ (((w.alloc (.cells #[.int .i64 s.least, .int .i64 s.most, .int .i64 s.now, .bool s.on, .int .i64 s.zero, .int .i64 s.first, .int .i64 s.high, .int .i64 s.done, .int .i64 s.spread, .int .i64 s.trans, .slice A l.length c, .int .i64 s.late, .int .i64 s.twice, .int .i64 s.played] 37)).alloc (.cells #[.int .i64 m.sq, .int .i64 m.ti, .bool m.mrk, .int .u8 m.ty, .slice MA m.pl.length mc] 183)).alloc (.cells Z14.toArray 37))
 generalize ((w.alloc _).alloc _).alloc _=W0 at S ⊢
 go_wp2_with (first|(refine zaf rfl 37 (.tmp 3) rfl (w.heap.size) 0 rfl 37 (JL s A l.length c) S.bs 14 _ Tryz.underlying37 zar (show 0+14≤14 by decide) #[.int .i64 s.least, .int .i64 s.most, .int .i64 s.now, .bool s.on, .int .i64 s.zero, .int .i64 s.first, .int .i64 s.high, .int .i64 s.done, .int .i64 s.spread, .int .i64 s.trans, .slice A l.length c, .int .i64 s.late, .int .i64 s.twice, .int .i64 s.played] (by rfl) rfl ?_)|(refine zaf rfl 183 (.tmp 5) rfl (w.heap.size+1) 0 rfl 183 (ML m MA m.pl.length mc) S.bm 5 _ Tryz.underlying183 zhg (show 0+5≤5 by decide) #[.int .i64 m.sq, .int .i64 m.ti, .bool m.mrk, .int .u8 m.ty, .slice MA m.pl.length mc] (by rfl) rfl ?_)|fail)
 refine (k1.out _ S.u).mono ?_
 rintro e w1 ⟨rfl,f⟩
 replace S:=S.later f
 clear f k1
 go_wp2_with (first|(refine zaf rfl 37 (.tmp 3) rfl (w.heap.size) 0 rfl 37 (JL s A l.length c) S.bs 14 _ Tryz.underlying37 zar (show 0+14≤14 by decide) #[.int .i64 s.least, .int .i64 s.most, .int .i64 s.now, .bool s.on, .int .i64 s.zero, .int .i64 s.first, .int .i64 s.high, .int .i64 s.done, .int .i64 s.spread, .int .i64 s.trans, .slice A l.length c, .int .i64 s.late, .int .i64 s.twice, .int .i64 s.played] (by rfl) rfl ?_)|fail)
 refine (G.out _ S.u).mono ?_
 rintro e w2 ⟨A1,c1,l1,A2,c2,l2,B,rfl,Be,Ay,T,b,Pr,Fi,P,M⟩
 subst Be
 have Ib:=S.br.lt
 have HS:=Z9 (And.intro T b)
 replace S:=S.later M
 clear M G T b
 unfold JV
 go_upto_region 5 with (first|(refine zag rfl 37 (.tmp 3) (.tmp 29) rfl (w.heap.size) 0 rfl 37 (JL s A l.length c) S.bs (JL X A2 l2.length c2) rfl zar (show 0+14≤14 by decide) rfl (JL X A2 l2.length c2) rfl ?_;intro WB BB F)|fail)
 have Bu:=F.2
 have Q:PN w WB w1.heap.size B X m MA mc A1 l1 A2 c2 l2:=⟨⟨BB,F.blk S.bm (by omega),F.blk S.br (by omega),F.bel S.u (Nat.le_refl _),HS.out.1.keep fun p g1 g2=>F.cell (by omega),HS.out.2.onlyB F (by omega),Ib,Pr,by omega⟩,Ay⟩
 refine zao (by assumption) ?_
 exact zww Q P.1 P.2 (HI.out _) g.out Jr rfl _ (Fr.mk rfl ⟨rfl,rfl,rfl,rfl,rfl,trivial⟩)
theorem zre (s:Jb.Jt) (A:Option Addr) (l:List TW) (n c:Nat) (now:Int) (m:Jb.Md) (MA:Option Addr) (mn mc:Nat) (w:World) (hq:l.map TW.w=s.q) (hn:l.length=n) (hl:n≤100000) (H:n≤c) (G:c≤maxLen) (D:Wts w w.heap.size A l) (C:∀ a∈l,I64 a.w.m.sq) (I:m.pl.length=mn) (F:mn≤100000) (E:IntsAt w w.heap.size .u8 MA m.pl):Calls Tryz.prog 64 #[.agg #[.int .i64 s.least, .int .i64 s.most, .int .i64 s.now, .bool s.on, .int .i64 s.zero, .int .i64 s.first, .int .i64 s.high, .int .i64 s.done, .int .i64 s.spread, .int .i64 s.trans, .slice A n c, .int .i64 s.late, .int .i64 s.twice, .int .i64 s.played], .int .i64 now, .agg #[.int .i64 m.sq, .int .i64 m.ti, .bool m.mrk, .int .u8 m.ty, .slice MA mn mc]] w (JPutW s now m w):=by
 subst hn
 subst I
 by_cases B:Jb.chk s now (decide m.ok)=0
 · exact (zrd s A l c now m MA mc w hq hl H G D C F E B).mono fun e w' h=>h.of (by unfold Jb.put;rw [if_pos B])
 · exact zur s A l c now m MA mc w hq hl H G D C F E _ rfl B
theorem zrf (s:Jb.Jt) (A:Option Addr) (l:List TW) (n c:Nat) (now:Int) (w:World) (hq:l.map TW.w=s.q) (hn:l.length=n) (hl:n≤100000) (E:n≤c) (D:c≤maxLen) (C:Wts w w.heap.size A l) (B:∀ a∈l,I64 a.w.m.sq):Calls Tryz.prog 87 #[.agg #[.int .i64 s.least, .int .i64 s.most, .int .i64 s.now, .bool s.on, .int .i64 s.zero, .int .i64 s.first, .int .i64 s.high, .int .i64 s.done, .int .i64 s.spread, .int .i64 s.trans, .slice A n c, .int .i64 s.late, .int .i64 s.twice, .int .i64 s.played], .int .i64 now] w (JRunW s now w):=by
 obtain ⟨le,mo,nw,on,ze,fi,hi,dn,sp,tr,q,la,tw,pd⟩:=s
 simp only at hq ⊢
 subst hq
 exact ztj le mo nw on ze fi hi dn sp tr A l n c la tw pd now w hn hl E D C B
theorem zkp (s:Jb.Jt) (A:Option Addr) (l:List TW) (n c:Nat) (w:World) (hq:l.map TW.w=s.q) (hn:l.length=n) (hl:n≤100000) (C:Wts w w.heap.size A l) (B:∀ a∈l,I64 a.w.m.sq) (v:Bool) (hv:v=Jb.valid s):Calls Tryz.prog 80 #[.agg #[.int .i64 s.least, .int .i64 s.most, .int .i64 s.now, .bool s.on, .int .i64 s.zero, .int .i64 s.first, .int .i64 s.high, .int .i64 s.done, .int .i64 s.spread, .int .i64 s.trans, .slice A n c, .int .i64 s.late, .int .i64 s.twice, .int .i64 s.played]] w fun e w'=>e = .returned (.bool v)∧Below w.heap.size w w':=by
 obtain ⟨le,mo,nw,on,ze,fi,hi,dn,sp,tr,q,la,tw,pd⟩:=s
 simp only at hq ⊢
 subst hq
 exact zil le mo nw on ze fi hi dn sp tr A l n c la tw pd w hn hl C B v hv
def NewR (l m:Int) (w:World) (e:Ending) (w':World):Prop:=e = .returned (.tuple #[JV (Jb.new l m).1 none 0 0, .int .u8 (Jb.new l m).2])∧Below w.heap.size w w'
theorem zus (l m:Int) (w:World):Calls Tryz.prog 21 #[.agg #[.int .i64 l, .int .i64 m]] w (NewR l m w):=by
 obtain ⟨cv,G⟩:=nm9 (decide (Jb.cfg l m))
 have k1:=Z9 fun W=>zfx l m W cv G
 have HC:=Z9 G
 clear G
 have I:=Z9 (((Bel.refl w).push (.cells #[.int .i64 l, .int .i64 m] 34)).push (.cells #[.int .i64 0, .int .i64 0, .int .i64 0, .bool false, .int .i64 0, .int .i64 0, .int .i64 0, .int .i64 0, .int .i64 0, .int .i64 0, .slice none 0 0, .int .i64 0, .int .i64 0, .int .i64 0] 37))
 have K:=Z9 ((Blk.new w 34 #[.int .i64 l, .int .i64 m]).push (.cells #[.int .i64 0, .int .i64 0, .int .i64 0, .bool false, .int .i64 0, .int .i64 0, .int .i64 0, .int .i64 0, .int .i64 0, .int .i64 0, .slice none 0 0, .int .i64 0, .int .i64 0, .int .i64 0] 37))
 have J:=Z9 (Blk.new1 w (.cells #[.int .i64 l, .int .i64 m] 34) 37 #[.int .i64 0, .int .i64 0, .int .i64 0, .bool false, .int .i64 0, .int .i64 0, .int .i64 0, .int .i64 0, .int .i64 0, .int .i64 0, .slice none 0 0, .int .i64 0, .int .i64 0, .int .i64 0])
 cases cv
 · go_enter Tryz.func21,Tryz.ntmps21
   go_wp2_with fail
   refine (k1.out _).mono ?_
   rintro e w1 ⟨rfl,B⟩
   have H:=Z9 (I.out.later B)
   have D:=Z9 (K.out.later B)
   have A:=Z9 (J.out.later B)
   clear B
   have c0:=(D.out).at 0 _ rfl
   have c1:=(D.out).at 1 _ rfl
   have d:=(A.out).at 0 _ rfl
   have c:=(A.out).at 1 _ rfl
   have b:=(A.out).at 2 _ rfl
   have Z:=(A.out).at 3 _ rfl
   have Y:=(A.out).at 4 _ rfl
   have X:=(A.out).at 5 _ rfl
   have V:=(A.out).at 6 _ rfl
   have U:=(A.out).at 7 _ rfl
   have T:=(A.out).at 8 _ rfl
   have R:=(A.out).at 9 _ rfl
   have f:=(A.out).at 10 _ rfl
   have L:=(A.out).at 11 _ rfl
   have M:=(A.out).at 12 _ rfl
   have N:=(A.out).at 13 _ rfl
   have O:=A.out.frozen
   have h:=A.out.lt
   go_wp2_with fail
   have F:=Blk.setRow A.out [.int .i64 0, .int .i64 0, .int .i64 0, .bool false, .int .i64 0, .int .i64 0, .int .i64 0, .int .i64 0, .int .i64 0, .int .i64 0, .slice none 0 0, .int .i64 0, .int .i64 0, .int .i64 0] rfl
   have E:=below_setRow (g:=w.heap.size+1) (by omega) [.int .i64 0, .int .i64 0, .int .i64 0, .bool false, .int .i64 0, .int .i64 0, .int .i64 0, .int .i64 0, .int .i64 0, .int .i64 0, .slice none 0 0, .int .i64 0, .int .i64 0, .int .i64 0] _ 0 H.out
   simp only [setRow,Nat.zero_add,Nat.reduceAdd] at F E
   have hn:Jb.new l m=(Jb.Jt.none,3):=by unfold Jb.new;exact if_neg (by have C:=HC.out;rw [eq_comm,decide_eq_false_iff_not] at C;exact C)
   exact bodyPost_ret (v := .tuple #[.agg (List.toArray [.int .i64 0, .int .i64 0, .int .i64 0, .bool false, .int .i64 0, .int .i64 0, .int .i64 0, .int .i64 0, .int .i64 0, .int .i64 0, .slice none 0 0, .int .i64 0, .int .i64 0, .int .i64 0]), .int .u8 3]) (zem Tryz.results21 rfl (run_loadVar_row (P:=Tryz.prog) _ _ _ _ _ _ _ F Tryz.underlying37 rfl (by kernel_rfl)) rfl) rfl ⟨by rw [hn];rfl,E⟩
 · go_enter Tryz.func21,Tryz.ntmps21
   go_wp2_with fail
   refine (k1.out _).mono ?_
   rintro e w1 ⟨rfl,B⟩
   have H:=Z9 (I.out.later B)
   have D:=Z9 (K.out.later B)
   have A:=Z9 (J.out.later B)
   clear B
   have c0:=(D.out).at 0 _ rfl
   have c1:=(D.out).at 1 _ rfl
   have d:=(A.out).at 0 _ rfl
   have c:=(A.out).at 1 _ rfl
   have b:=(A.out).at 2 _ rfl
   have Z:=(A.out).at 3 _ rfl
   have Y:=(A.out).at 4 _ rfl
   have X:=(A.out).at 5 _ rfl
   have V:=(A.out).at 6 _ rfl
   have U:=(A.out).at 7 _ rfl
   have T:=(A.out).at 8 _ rfl
   have R:=(A.out).at 9 _ rfl
   have f:=(A.out).at 10 _ rfl
   have L:=(A.out).at 11 _ rfl
   have M:=(A.out).at 12 _ rfl
   have N:=(A.out).at 13 _ rfl
   have O:=A.out.frozen
   have h:=A.out.lt
   go_wp2_with fail
   have F:=Blk.setRow A.out [.int .i64 l, .int .i64 m, .int .i64 0, .bool false, .int .i64 0, .int .i64 0, .int .i64 (-1), .int .i64 (-1), .int .i64 0, .int .i64 0, .slice none 0 0, .int .i64 0, .int .i64 0, .int .i64 0] rfl
   have E:=below_setRow (g:=w.heap.size+1) (by omega) [.int .i64 l, .int .i64 m, .int .i64 0, .bool false, .int .i64 0, .int .i64 0, .int .i64 (-1), .int .i64 (-1), .int .i64 0, .int .i64 0, .slice none 0 0, .int .i64 0, .int .i64 0, .int .i64 0] _ 0 H.out
   simp only [setRow,Nat.zero_add,Nat.reduceAdd] at F E
   have hn:Jb.new l m=(⟨l,m,0,false,0,0, -1, -1,0,0,[],0,0,0⟩,0):=by unfold Jb.new;exact if_pos (by have C:=HC.out;rw [eq_comm,decide_eq_true_iff] at C;exact C)
   exact bodyPost_ret (v := .tuple #[.agg (List.toArray [.int .i64 l, .int .i64 m, .int .i64 0, .bool false, .int .i64 0, .int .i64 0, .int .i64 (-1), .int .i64 (-1), .int .i64 0, .int .i64 0, .slice none 0 0, .int .i64 0, .int .i64 0, .int .i64 0]), .int .u8 0]) (zem Tryz.results21 rfl (run_loadVar_row (P:=Tryz.prog) _ _ _ _ _ _ _ F Tryz.underlying37 rfl (by kernel_rfl)) rfl) rfl ⟨by rw [hn];rfl,E⟩
theorem znq (v i:Int) (w:World):Calls Tryz.prog 68 #[.agg #[.int .i64 v, .int .i64 i]] w fun e w'=>e = .returned (.bool (Dlt.valid v i))∧Below w.heap.size w w':=by
 refine (zhz v i w).mono ?_
 rintro e w' ⟨rfl,rfl⟩
 exact ⟨rfl,(Below.refl _ _).alloc (Nat.le_refl _) _⟩
theorem rel2 (s:Ev.Snd):((Ev.release s).2==2) = !s.valid:=by
 unfold Ev.release
 cases s.valid
 · rfl
 · cases s.on<;>rfl
theorem zlq {p:Sb.Pt} (h1:true=speechB p.codec) (h2:true=Dlt.valid p.cv p.ci) (h3:true=Jb.valid p.jt) (h4:true=p.tn.valid):p.valid=decide p.near:=by
 unfold Sb.Pt.valid
 rw [← h1,← h2,← h3,← h4];rfl
theorem zdi (p:Sb.Pt) (hw:p.wf) (A:Option Addr) (l:List TW) (n c:Nat) (X:Array Value) (R:X=PA p A n c) (w:World) (hq:l.map TW.w=p.jt.q) (hn:l.length=n) (hl:n≤100000) (U:Wts w w.heap.size A l) (T:∀ a∈l,I64 a.w.m.sq) (v:Bool) (hv:v=p.valid):Calls Tryz.prog 37 #[.agg X] w fun e w'=>e = .returned (.bool v)∧Below w.heap.size w w':=by
 have PB0:=Z9 (PB.new w X R)
 have B:=Z9 ((Bel.refl w).push (.cells X 45))
 have E:=Z9 (U.push (.cells X 45))
 have G:=Z9 hv
 obtain ⟨v1,M⟩:=nm9 (speechB p.codec)
 obtain ⟨v2,N⟩:=nm9 (Dlt.valid p.cv p.ci)
 obtain ⟨v3,J⟩:=nm9 (Jb.valid p.jt)
 obtain ⟨v4,I⟩:=nm9 p.tn.valid
 have k1:=Z9 fun W=>zdm p.codec W hw.codec.1 hw.codec.2
 have P:=Z9 fun W=>znq p.cv p.ci W
 have k3:=Z9 fun (W:World) H=>zkp p.jt A l n c W hq hn hl H T v3 J
 have F:∀ W,Calls Tryz.prog 81 #[.agg #[.bool p.tn.on, .int .u8 p.tn.code, .int .u8 p.tn.vol, .int .u32 p.tn.start, .int .i64 p.tn.len, .int .i64 p.tn.ends]] W fun e w'=>e = .returned (.tuple #[.agg (Ev.release p.tn).1.row, .int .u8 (Ev.release p.tn).2])∧Below W.heap.size W w':=fun W=>zka p.tn.on p.tn.code p.tn.vol p.tn.start p.tn.len p.tn.ends W
 have h4:=rel2 p.tn
 rw [← I] at h4
 generalize (Ev.release p.tn).1=s4 at F
 generalize (Ev.release p.tn).2=O at F h4
 simp only [Ev.Snd.row] at F
 replace F:=Z9 F
 have HR:=Z9 (fun h1 h2 h3 h4 => @zlq p h1 h2 h3 h4)
 rw [← M] at k1
 rw [← N] at P
 have b:=Z9 M
 have Z:=Z9 N
 have Y:=Z9 J
 have V:=Z9 I
 clear R U hv T hq M N J I
 go_enter Tryz.func37,Tryz.ntmps37
 go_upto_region 1 with fail
 obtain ⟨W,H⟩:=nm9 (w.alloc (Obj.cells X 45))
 rw [← H] at PB0 B E ⊢
 clear H
 obtain ⟨g,hg⟩:=nm9 w.heap.size
 rw [← hg] at PB0 ⊢
 clear hg
 have c0:=PB0.out.cell 0 _ rfl
 go_wp2_with fail
 refine (k1.out _).mono ?_
 rintro e w1 ⟨rfl,C⟩
 replace B:=Z9 (B.out.later C)
 replace PB0:=Z9 (PB0.out.later C)
 replace E:=Z9 (E.out.later C)
 clear C c0
 cases v1
 · obtain rfl:v=false:=by rw [G.out];unfold Sb.Pt.valid;rw [← b.out];rfl
   go_wp2_with fail
   go_ret
   exact ⟨rfl,B.out⟩
 obtain ⟨i,h⟩:=PB0.out.cd
 go_wp2_with fail
 refine (P.out _).mono ?_
 rintro e w2 ⟨rfl,C⟩
 replace B:=Z9 (B.out.later C)
 replace PB0:=Z9 (PB0.out.later C)
 replace E:=Z9 (E.out.later C)
 clear C i h
 cases v2
 · obtain rfl:v=false:=by rw [G.out];unfold Sb.Pt.valid;rw [← Z.out];simp
   go_wp2_with fail
   go_ret
   exact ⟨rfl,B.out⟩
 obtain ⟨t,u,sL,x,y,z,Q,wB,wA,vZ,vY,vX,vW,vV⟩:=PB0.out.jt
 go_wp2_with fail
 refine (k3.out _ E.out).mono ?_
 rintro e w3 ⟨rfl,C⟩
 replace B:=Z9 (B.out.later C)
 replace PB0:=Z9 (PB0.out.later C)
 clear C E t u sL x y z Q wB wA vZ vY vX vW vV
 cases v3
 · obtain rfl:v=false:=by rw [G.out];unfold Sb.Pt.valid;rw [← Y.out];simp
   go_wp2_with fail
   go_ret
   exact ⟨rfl,B.out⟩
 obtain ⟨f,d,Uy,VW,VV,Yf⟩:=PB0.out.tn
 go_wp2_with fail
 refine (F.out _).mono ?_
 rintro e w4 ⟨rfl,C⟩
 replace B:=Z9 (B.out.later C)
 replace PB0:=Z9 (PB0.out.later C)
 clear C f d Uy VW VV Yf
 cases v4
 · obtain rfl:v=false:=by rw [G.out];unfold Sb.Pt.valid;rw [← V.out];simp
   replace h4:(O==2)=true:=h4
   go_wp2_with fail
   go_ret
   exact ⟨rfl,B.out.push _⟩
 replace h4:(O==2)=false:=h4
 have D:Hid (v=decide p.near):=Z9 (by rw [G.out];exact HR.out b.out Z.out Y.out V.out)
 obtain ⟨IH,o,j⟩:=PB0.out.tk
 have sK:=PB0.out.cell 31 _ rfl
 have hlt:=Blk.lt PB0.out
 go_upto_region 7 with fail
 by_cases t0:0≤p.tk.high
 rotate_left
 · obtain rfl:v=false:=by rw [D.out,decide_eq_false_iff_not];unfold Sb.Pt.near;omega
   have d0:decide (0≤p.tk.high)=false:=decide_eq_false t0
   replace t0:=Int.not_le.1 t0
   go_wp2_with fail
   go_ret
   exact ⟨rfl,(B.out.push _).push _⟩
 by_cases t1:p.tk.high≤140737488355328
 rotate_left
 · obtain rfl:v=false:=by rw [D.out,decide_eq_false_iff_not];unfold Sb.Pt.near;omega
   have d1:decide (p.tk.high≤140737488355328)=false:=decide_eq_false t1
   replace t1:=Int.not_le.1 t1
   go_wp2_with fail
   go_ret
   exact ⟨rfl,(B.out.push _).push _⟩
 by_cases t2 : -1≤p.tk.jump
 rotate_left
 · obtain rfl:v=false:=by rw [D.out,decide_eq_false_iff_not];unfold Sb.Pt.near;omega
   have d2:decide (-1≤p.tk.jump)=false:=decide_eq_false t2
   replace t2:=Int.not_le.1 t2
   go_wp2_with fail
   go_ret
   exact ⟨rfl,(B.out.push _).push _⟩
 by_cases t3:p.tk.jump≤65535
 rotate_left
 · obtain rfl:v=false:=by rw [D.out,decide_eq_false_iff_not];unfold Sb.Pt.near;omega
   have d3:decide (p.tk.jump≤65535)=false:=decide_eq_false t3
   replace t3:=Int.not_le.1 t3
   go_wp2_with fail
   go_ret
   exact ⟨rfl,(B.out.push _).push _⟩
 by_cases L : -140737488355328≤p.ht
 rotate_left
 · obtain rfl:v=false:=by rw [D.out,decide_eq_false_iff_not];unfold Sb.Pt.near;omega
   have d4:decide (-140737488355328≤p.ht)=false:=decide_eq_false L
   replace L:=Int.not_le.1 L
   go_wp2_with fail
   go_ret
   exact ⟨rfl,(B.out.push _).push _⟩
 by_cases K:p.ht≤140737488355328
 rotate_left
 · obtain rfl:v=false:=by rw [D.out,decide_eq_false_iff_not];unfold Sb.Pt.near;omega
   have d5:decide (p.ht≤140737488355328)=false:=decide_eq_false K
   replace K:=Int.not_le.1 K
   go_wp2_with fail
   go_ret
   exact ⟨rfl,(B.out.push _).push _⟩
 obtain rfl:v=true:=by rw [D.out,decide_eq_true_iff];unfold Sb.Pt.near;omega
 go_wp2_with fail
 go_ret
 exact ⟨rfl,(B.out.push _).push _⟩
end
section
open Go.RowKit
theorem zaw {o:Oper} {a:Act} {S:World→Prop} (B:o.guard=none) (ty:TypeId) (x:Operand) (ho:o.op = .load ty x) (g i:Nat) (hx:a.eval x = .pointer (some ⟨g,i,none⟩)) (t:TypeId) (cs:List Value) (hg:∀ w,S w→Blk w g t cs.toArray) (n:Nat) (d:TypeDesc) (hu:P.underlying ty=some d) (hi:(P.info? ty).map (·.size)=some n) (hn:i+n≤cs.length) (vs:Array Value) (hv:(partS cs i n).toArray=vs) (hd:aggT d=true):YieldsIf P ops S o (.agg vs) a:=by
 subst hv
 refine Or.inl ⟨by simp [Region.wanted,B],fun w A => ?_⟩
 unfold execOp
 simp only [ho,hx,Instr.loadAt,Instr.sureAddr,Sem.run_bind,Sem.run_pure,Result.andThen_ok,zch (hg w A) i n hd hu hi hn]
theorem zam {o:Oper} {a:Act} {K:Act→World→Prop} {Q:Exit→Act→World→Prop} {E:Prop} (C:o.guard=none) (ty:TypeId) (x y:Operand) (ho:o.op = .store ty x y) (g i:Nat) (hx:a.eval x = .pointer (some ⟨g,i,none⟩)) (t:TypeId) (cs:List Value) (hg:Blk w g t cs.toArray) (vs:List Value) (B:a.eval y = .agg vs.toArray) (hi:(P.info? ty).map (·.size)=some vs.length) (hn:i+vs.length≤cs.length) (h1:vs.all (·.oneCell')=true) (A:List Value) (hc:overS cs i vs=A)
 (h:∀ W,Blk W g t A.toArray→OnlyB g w W→K (a.put o.dst undef) W):if Region.wanted o (yielded ops a.tmps)=true then Oper.wp P o a w K Q else E:=by
 subst hc
 rw [if_pos (by simp [Region.wanted,C])]
 unfold Oper.wp execOp
 simp only [ho,hx,B,Instr.storeAt,Instr.sureAddr,Sem.run_bind,Sem.run_pure,Result.andThen_ok,zca hg i vs hi hn h1]
 unfold Oper.upon
 exact h _ (setRow_heap w g _ _ t _ hg) (OnlyB.setRow w g _)
theorem Blk.dr (h:Blk W g t cs):Blk W.drew g t cs:=h
end
section
attribute [local go_sem ↓] zab zac
attribute [local go_sem] zaa zad
open Go.RowKit
theorem zda (p:Sb.Pt) (hw:p.wf) (A:Option Addr) (l:List TW) (n c:Nat) (X:Array Value) (G:X=PA p A n c) (w:World) (hq:l.map TW.w=p.jt.q) (hn:l.length=n) (hl:n≤100000) (I:Wts w w.heap.size A l) (H:∀ a∈l,I64 a.w.m.sq) (now:Int):Calls Tryz.prog 50 #[.agg X, .int .i64 now] w fun e w'=>e = .returned (.int .u8 (Sb.chkT p now))∧Below w.heap.size w w':=by
 have PB0:=Z9 (PB.new w X G)
 have B:=Z9 ((Bel.refl w).push (.cells X 45))
 have J:=Z9 (I.push (.cells X 45))
 obtain ⟨v,hv⟩:=nm9 p.valid
 have k1:=Z9 fun (W:World) D=>zdi p hw A l n c (PA p A n c) rfl W hq hn hl D H v hv
 obtain ⟨R,C⟩:=nm9 (Sb.chkT p now)
 rw [← C]
 unfold Sb.chkT at C
 rw [← hv] at C
 have HR:=Z9 C
 clear G I H hq hv C
 go_enter Tryz.func50,Tryz.ntmps50
 go_upto_region 1 with fail
 obtain ⟨W,D⟩:=nm9 (w.alloc (Obj.cells X 45))
 rw [← D] at PB0 B J ⊢
 clear D
 obtain ⟨g,hg⟩:=nm9 w.heap.size
 rw [← hg] at PB0 ⊢
 clear hg
 go_wp2_with (first|fail|(refine zaf rfl 45 (.tmp 2) rfl (g) 0 rfl 45 (PL p A n c) PB0.out 48 _ Tryz.underlying45 zai (show 0+48≤48 by decide) (PA p A n c) (by rfl) rfl ?_))
 refine (k1.out _ J.out).mono ?_
 rintro e w1 ⟨rfl,F⟩
 replace B:=Z9 (B.out.later F)
 replace PB0:=Z9 (PB0.out.later F)
 clear F
 have K:=PB0.out.jt.2.2.1
 cases v
 · obtain rfl:R=2:=by rw [HR.out];simp
   go_wp2_with fail
   go_ret
   exact ⟨rfl,B.out⟩
 by_cases h1:281474976710656<now
 · obtain rfl:R=2:=by rw [HR.out,if_pos (Or.inr h1)]
   go_wp2_with fail
   go_ret
   exact ⟨rfl,B.out⟩
 have E:¬(true=false∨281474976710656<now):=fun h=>h.elim (fun h=>by cases h) h1
 by_cases h2:now<p.jt.now
 · obtain rfl:R=9:=by rw [HR.out,if_neg E,if_pos h2]
   clear E
   go_wp2_with fail
   go_ret
   exact ⟨rfl,B.out⟩
 obtain rfl:R=0:=by rw [HR.out,if_neg E,if_neg h2]
 clear E
 go_wp2_with fail
 go_ret
 exact ⟨rfl,B.out⟩
end
section
open Go.RowKit
structure TS where
 s:Sb.Sd
 S:Option Addr
 c:Nat
def TS.row (a:TS):List Value:=[.int .i64 a.s.at_, .slice a.S a.s.zs.length a.c, .slice none 0 0]
def Sds (w:World) (n:Nat) (A:Option Addr) (l:List TS):Prop:=RowsAt w n 3 TS.row A l∧∀ a∈l,IntsAt w n .i16 a.S a.s.zs
section
variable {w w':World} {n:Nat} {A:Option Addr} {l:List TS}
theorem Sds.nil:Sds w n A []:=⟨RowsAt.nil,fun _ h=>by cases h⟩
theorem Sds.keep (h:Sds w n A l) (hk:∀ p:Addr,p.block<n→w'.cell? p=w.cell? p):Sds w' n A l:=⟨h.1.keep hk,fun a B=>(h.2 a B).keep hk⟩
theorem Sds.more {m:Nat} (h:Sds w n A l) (hm:n≤m):Sds w m A l:=⟨h.1.more hm,fun a B=>(h.2 a B).more hm⟩
theorem Sds.later (h:Sds w w.heap.size A l) (hb:Below w.heap.size w w'):Sds w' w'.heap.size A l:=(h.keep fun _ hp=>hb.cell hp).more hb.size
theorem Sds.push (h:Sds w w.heap.size A l) (o:Obj):Sds (w.alloc o) (w.alloc o).heap.size A l:=(h.keep fun p hp=>World.cell?_alloc_lt w o p hp).more (by simp)
end
theorem ztw {l:List TS} (h:RowsAt w n 3 TS.row A l) {k:Nat} {a:TS} (B:l[k]? = some a):∃ b off,A=some ⟨b,off,none⟩∧b<n ∧
 w.cell? ⟨b,off+k*3,none⟩=some (.int .i64 a.s.at_)∧w.cell? ⟨b,off+k*3+1,none⟩=some (.slice a.S a.s.zs.length a.c)∧w.cell? ⟨b,off+k*3+2,none⟩=some (.slice none 0 0):=by
 obtain ⟨b,off,rfl,hb,hc⟩:=h (by have:=(List.getElem?_eq_some_iff.1 B).1;omega)
 exact ⟨b,off,rfl,hb,hc k a B 0 _ rfl,hc k a B 1 _ rfl,hc k a B 2 _ rfl⟩
structure SOwn (w:World) (base:Nat) (A:Option Addr) (n c:Nat) (l:List TS):Prop where
 len:l.length=n
 own:Owns w base 64 3 A n c (l.flatMap TS.row)
 pay:∀ a∈l,IntsAt w w.heap.size .i16 a.S a.s.zs
 far:∀ a∈l,0<a.s.zs.length→∀ b off,a.S=some ⟨b,off,none⟩→some b≠ownB A
 new:∀ a∈l,0<a.s.zs.length→∀ b off,a.S=some ⟨b,off,none⟩→base≤b
theorem SOwn.nil: SOwn w base none 0 0 []:=⟨rfl,Owns.nil,(fun _ h=>by cases h),(fun _ h=>by cases h),(fun _ h=>by cases h)⟩
theorem SOwn.below {l:List TS} (h:SOwn w base A n c l) (hb:Below w.heap.size w w'):SOwn w' base A n c l :=
 ⟨h.len,h.own.below hb,fun a B=>(h.pay a B).later hb,h.far,h.new⟩
theorem SOwn.step {k:Nat} {l:List TS} {a:TS} (h:SOwn wr base A k c l) (T:base≤wr.heap.size) (hb:Below wr.heap.size wr v1) (F:Below v1.heap.size v1 v2) (hg:v2.grownBy wn (ownB A))
 (J:Owns wn base 64 3 An (k+1) cn (l.flatMap TS.row++a.row)) (I:ownB An=ownB A∨∀ g,ownB An=some g→v2.heap.size≤g) (D:IntsNew wr.heap.size v1 .i16 a.S a.s.zs):SOwn wn base An (k+1) cn (l ++ [a]):=by
 have s1:=hb.size
 have R:=F.size
 have P:=hg.size
 have G:∀ g,ownB A=some g→g<wr.heap.size:=fun g N=>(h.own.block g N).2
 have H:∀ (x:TS),IntsAt v2 v2.heap.size .i16 x.S x.s.zs→(0<x.s.zs.length→∀ b off,x.S=some ⟨b,off,none⟩→some b≠ownB A)→IntsAt wn wn.heap.size .i16 x.S x.s.zs:=by
  intro x hx hf h0
  obtain ⟨b,off,e,hlt,hc⟩:=hx h0
  exact ⟨b,off,e,by omega,fun i hi=>hg.cell (hc i hi) (hf h0 b off e)⟩
 have E:∀ b off,0<a.s.zs.length→a.S=some ⟨b,off,none⟩→wr.heap.size≤b∧b<v1.heap.size:=by
  intro b off h0 e
  refine ⟨D.2 h0 b off e,?_⟩
  obtain ⟨M,O,B,hlt,_⟩:=D.1 h0
  rw [e] at B
  injection B with B
  injection B with L _
  omega
 have K:∀ x∈l,∀ b off,0<x.s.zs.length→x.S=some ⟨b,off,none⟩→b<wr.heap.size:=by
  intro x hx b off h0 e
  obtain ⟨M,O,B,hlt,_⟩:=h.pay x hx h0
  rw [e] at B
  injection B with B
  injection B with L _
  omega
 refine ⟨by simp [h.len],by rw [List.flatMap_append];simpa using J,fun x hx => ?_,fun x hx h0 b off e => ?_,fun x hx h0 b off e => ?_⟩
 · rcases List.mem_append.1 hx with hx|hx
   · exact H x (((h.pay x hx).later hb).later F) (h.far x hx)
   · obtain rfl:=List.mem_singleton.1 hx
     refine H x (D.1.later F) (fun h0 b off e he => ?_)
     have:=E b off h0 e
     have:=G b he.symm
     omega
 · rcases List.mem_append.1 hx with hx|hx
   · rcases I with C|C
     · rw [C];exact h.far x hx h0 b off e
     · intro he
       have:=K x hx b off h0 e
       have:=C b he.symm
       omega
   · obtain rfl:=List.mem_singleton.1 hx
     have:=E b off h0 e
     rcases I with C|C
     · rw [C]
       intro he
       have:=G b he.symm
       omega
     · intro he
       have:=C b he.symm
       omega
 · rcases List.mem_append.1 hx with hx|hx
   · exact h.new x hx h0 b off e
   · obtain rfl:=List.mem_singleton.1 hx
     have:=E b off h0 e
     omega
theorem SOwn.sds {l:List TS} (h:SOwn w base A n c l):Sds w w.heap.size A l:=by
 refine ⟨?_,h.pay⟩
 exact Owns.rows h.own h.len (fun a=>rfl)
end
namespace Sb
open Go.RowKit
theorem sounds_snoc:∀ (l:List Jb.Wt) (s:Int) (a:Jb.Wt),sounds s (l ++ [a])=((dec a.m.ty a.m.pl (sounds s l).1).2,(sounds s l).2 ++ [⟨a.at_,(dec a.m.ty a.m.pl (sounds s l).1).1,[]⟩])
 | [],s,a=>rfl
 | b :: l, s, a => by
   show ((sounds (dec b.m.ty b.m.pl s).2 (l ++ [a])).1,(⟨b.at_,(dec b.m.ty b.m.pl s).1,[]⟩:Sd)::(sounds (dec b.m.ty b.m.pl s).2 (l ++ [a])).2)=_
   rw [sounds_snoc l (dec b.m.ty b.m.pl s).2 a]
   rfl
theorem take_snoc {α : Type} {l:List α} {k:Nat} {a : α} (h:l[k]? = some a):l.take (k+1)=l.take k ++ [a]:=by
 rw [List.take_add_one,h];rfl
theorem noise_seed (a s:Int) (h0:0≤s) (h1:s≤4294967295) (n:Nat):0≤Ev.seed s n∧Ev.seed s n≤4294967295:=by
 induction n with
 | zero=>exact ⟨h0,h1⟩
 | succ n ih=>unfold Ev.seed;omega
end Sb
section
attribute [local go_sem ↓] zab zac
attribute [local go_sem] zaa zad
open Go.RowKit
theorem znr:(Tryz.prog.info? 64).map (fun i=>(i.zero,i.size,i.bytes))=some (some (.agg #[.int .i64 0, .slice none 0 0, .slice none 0 0]),3,56):=by kernel_rfl
structure Kept (base gl:Nat) (w w':World):Prop where
 os:w'.os=w.os
 tape:w'.tape=w.tape
 output:w'.output=w.output
 size:w.heap.size≤w'.heap.size
 block:∀ k,k<base→k<w.heap.size→k≠gl→w'.heap[k]? = w.heap[k]?
theorem Kept.blk (h:Kept base gl w w') (hb:Blk w g t cs) (hg:g<base) (A:g≠gl):Blk w' g t cs:=(h.block g hg hb.lt A).trans hb
theorem Kept.bel (h:Kept base gl w w') (hb:Bel w0 w) (hs:w0.heap.size≤base) (hg:w0.heap.size≤gl):Bel w0 w' :=
 ⟨h.os.trans hb.os,h.tape.trans hb.tape,h.output.trans hb.output,Nat.le_trans hb.size h.size,fun k hk=>(h.block k (by omega) (by have:=hb.size;omega) (by omega)).trans (hb.block k hk)⟩
theorem SOwn.step2 {k:Nat} {l:List TS} {a:TS} (h:SOwn w base A k c l) (hg:w.grownBy wn (ownB A))
 (D:Owns wn base 64 3 An (k+1) cn (l.flatMap TS.row++a.row)) (G:ownB An=ownB A∨∀ g,ownB An=some g→w.heap.size≤g) (E:IntsAt w w.heap.size .i16 a.S a.s.zs)
 (hf:0<a.s.zs.length→∀ b off,a.S=some ⟨b,off,none⟩→some b≠ownB A∧base≤b):SOwn wn base An (k+1) cn (l ++ [a]):=by
 have H:=hg.size
 have F:∀ (x:TS),IntsAt w w.heap.size .i16 x.S x.s.zs→(0<x.s.zs.length→∀ b off,x.S=some ⟨b,off,none⟩→some b≠ownB A)→IntsAt wn wn.heap.size .i16 x.S x.s.zs:=by
  intro x hx hf h0
  obtain ⟨b,off,e,hlt,hc⟩:=hx h0
  exact ⟨b,off,e,by omega,fun i hi=>hg.cell (hc i hi) (hf h0 b off e)⟩
 have low:∀ (x:TS),IntsAt w w.heap.size .i16 x.S x.s.zs→0<x.s.zs.length→∀ b off,x.S=some ⟨b,off,none⟩→b<w.heap.size:=by
  intro x hx h0 b off e
  obtain ⟨J,K,B,hlt,_⟩:=hx h0
  rw [e] at B
  injection B with B
  injection B with I _
  omega
 have all:∀ x∈l ++ [a],IntsAt w w.heap.size .i16 x.S x.s.zs∧(0<x.s.zs.length→∀ b off,x.S=some ⟨b,off,none⟩→some b≠ownB A∧base≤b):=by
  intro x hx
  rcases List.mem_append.1 hx with hx|hx
  · exact ⟨h.pay x hx,fun h0 b off e=>⟨h.far x hx h0 b off e,h.new x hx h0 b off e⟩⟩
  · obtain rfl:=List.mem_singleton.1 hx
    exact ⟨E,hf⟩
 refine ⟨by simp [h.len],by rw [List.flatMap_append];simpa using D,fun x hx=>F x (all x hx).1 (fun h0 b off e=>((all x hx).2 h0 b off e).1),fun x hx h0 b off e => ?_,fun x hx h0 b off e=>((all x hx).2 h0 b off e).2⟩
 rcases G with C|C
 · rw [C];exact ((all x hx).2 h0 b off e).1
 · intro he
   have:=low x (all x hx).1 h0 b off e
   have:=C b he.symm
   omega
theorem SOwn.only {l:List TS} (h:SOwn w base A n c l) (ho:OnlyB g w w') (hg:g<base):SOwn w' base A n c l :=
 ⟨h.len,ho.owns h.own hg,fun a B h0=>by
  obtain ⟨b,off,e,hlt,hc⟩:=h.pay a B h0
  have:=h.new a B h0 b off e
  exact ⟨b,off,e,by rw [ho.2];exact hlt,fun i hi=>(ho.cell (show b≠g by omega)).trans (hc i hi)⟩,h.far,h.new⟩
def AddR (base gl:Nat) (k:Nat) (ls:List TS) (a:TS) (w:World) (e:Ending) (w':World):Prop :=
 e = .returned (.tuple #[])∧∃ (A':Option Addr) (c':Nat),Blk w' gl 57 #[.slice A' (k+1) c']∧SOwn w' base A' (k+1) c' (ls ++ [a])∧Kept base gl w w'
theorem zut (base gl:Nat) (A:Option Addr) (k c:Nat) (ls:List TS) (at_:Int) (S:Option Addr) (zs:List Int) (sc:Nat) (w:World) (D:Blk w gl 57 #[.slice A k c]) (E:SOwn w base A k c ls) (hk:k≤100000) (Z:gl<base) (X:base≤w.heap.size) (K:IntsAt w w.heap.size .i16 S zs) (hf:0<zs.length→∀ b off,S=some ⟨b,off,none⟩→some b≠ownB A∧base≤b):Calls Tryz.prog 102 #[.int .i64 at_, .slice S zs.length sc, .pointer (some ⟨gl,0,none⟩)] w (AddR base gl k ls ⟨⟨at_,zs,[]⟩,S,sc⟩ w):=by
 have D:=Z9 D
 have E:=Z9 E
 have U:=Z9 K
 have V:=Z9 hf
 have H:=Z9 E.out.own
 clear K hf
 go_enter Tryz.func102,Tryz.ntmps102
 have l0:=D.out.at 0 _ rfl
 have P:=D.out.frozen 0
 have hlt:=D.out.lt
 have h5:(k+1)*56≤140737488355328:=by omega
 have h6:k+1≤maxLen:=by unfold maxLen;omega
 have L:∀ g,ownB A=some g→base≤g:=fun g e=>(H.out.block g e).1
 go_wp2_with (at_builtin;go_loud (refine zan (w0:=w) rfl _ _ 57 rfl base 64 3 56 _ Tryz.underlying57 znr rfl (by decide) A k c _ rfl H.out [.int .i64 at_, .slice S zs.length sc, .slice none 0 0] rfl (by simp [Value.oneCell']) rfl h6 h5 X ?_);intro I c9 v1 J B M;have G:=D.out.grown B (fun e=>by have:=L _ e.symm;omega);have O:=G.at 0 _ rfl;have N:=G.frozen 0)
 obtain ⟨V1,F⟩:=nm9 (v1.setCell ⟨gl,0,none⟩ (.slice I (k+1) c9))
 rw [← F]
 have C:OnlyB gl v1 V1:=by rw [F];exact OnlyB.setCell _ _ _ _
 have Y:=Z9 (show Blk V1 gl 57 #[.slice I (k+1) c9] by rw [F];exact G.set_ 0 _)
 have R:=Z9 ((E.out.step2 (a:=⟨⟨at_,zs,[]⟩,S,sc⟩) B (by simpa [TS.row] using J) M U.out V.out).only C Z)
 have T:=Z9 (show Kept base gl w V1 from ⟨C.1.os.trans B.os,C.1.tape.trans B.tape,C.1.output.trans B.output,Nat.le_trans B.size C.1.size,fun j h1 h2 h3=>(C.1.block j (by have:=B.size;omega) (fun e=>h3 (by injection e))).trans (B.block j h2 (fun e=>by have:=L _ e.symm;omega))⟩)
 clear F C G O N J B M l0 P D E H
 go_end0
 exact ⟨rfl,I,c9,Y.out,R.out,T.out⟩
def DecodeR (d:List Int×Int) (w:World) (e:Ending) (w':World):Prop:=∃ (A':Option Addr) (c':Nat),e = .returned (.tuple #[.slice A' d.1.length c', .int .u32 d.2])∧IntsNew w.heap.size w' .i16 A' d.1∧Below w.heap.size w w'
theorem zwx (bs:List Int):(Dlt.unpR bs 160).1=Sb.decS 96 bs∧((Dlt.unpR bs 160).2.2.2≠0→(Dlt.unpR bs 160).1=[]):=by
 have e:Sb.decS 96 bs=if Sb.Dlt.fits bs 160 then Dlt.unpackL bs 160 else []:=by unfold Sb.decS;rw [if_neg (by decide),if_neg (by decide),if_pos rfl]
 rw [e]
 unfold Dlt.unpR
 rw [if_neg (by decide),show (160:Int).toNat=160 from rfl]
 by_cases h1:bs.length<4+(160+1) / 2
 · rw [if_pos h1,if_neg (fun h=>by have:=h.1;omega)]
   exact ⟨rfl,fun _=>rfl⟩
 rw [if_neg h1]
 by_cases h2:Dlt.okB bs 160
 · rw [if_pos h2,if_pos (show Sb.Dlt.fits bs 160 from h2)]
   exact ⟨rfl,fun h=>absurd rfl h⟩
 · rw [if_neg h2,if_neg (show ¬Sb.Dlt.fits bs 160 from h2)]
   exact ⟨rfl,fun _=>rfl⟩
theorem zns (A:Option Addr) (bs:List Int) (c:Nat) (seed:Int) (w:World) (B:IntsAt w w.heap.size .u8 A bs) (hz:Within 0 255 bs) (C:bs.length≤8000) (h1:bs.length≠1):Calls Tryz.prog 103 #[.int .u8 13, .slice A bs.length c, .int .u32 seed] w (DecodeR ([],seed) w):=by
 have D:¬(bs.length:Int)=1:=by omega
 clear B hz
 go_enter Tryz.func103,Tryz.ntmps103
 go_wp2_with fail
 go_ret2
 exact ⟨none,0,rfl,IntsNew.nil,Below.refl _ _⟩
theorem znt (A:Option Addr) (bs:List Int) (c:Nat) (seed:Int) (w:World) (C:IntsAt w w.heap.size .u8 A bs) (hz:Within 0 255 bs) (E:bs.length≤8000) (h1:bs.length=1) (s0:0≤seed) (s1:seed≤4294967295):Calls Tryz.prog 103 #[.int .u8 13, .slice A bs.length c, .int .u32 seed] w (DecodeR ((Ev.noise (bs.getD 0 0) seed 160).1,(Ev.noise (bs.getD 0 0) seed 160).2.1) w):=by
 obtain ⟨x,rfl⟩:∃ x,bs=[x]:=by
  match bs,h1 with
  | [x],_=>exact ⟨x,rfl⟩
 obtain ⟨x0,x1⟩:=hz x (by simp)
 obtain ⟨b,off,rfl,F,qc⟩:=C (by simp)
 have c0:=qc 0 (by simp)
 have k1:=Z9 fun (W:World)=>zqk x seed W 160 x0 x1 s0 s1 (by omega)
 have e:((Ev.noise ([x].getD 0 0) seed 160).1,(Ev.noise ([x].getD 0 0) seed 160).2.1)=((List.range 160).map (fun k=>Ev.nsamp (Ev.amp (x / 6).toNat) seed k),Ev.seed seed 160):=by
  show ((Ev.noise x seed 160).1,(Ev.noise x seed 160).2.1)=_
  unfold Ev.noise
  rw [if_neg (by decide)];rfl
 rw [e]
 clear qc e hz h1
 simp only [List.getD_cons_zero,Nat.add_zero] at c0
 go_enter Tryz.func103,Tryz.ntmps103
 go_wp2_with fail
 refine (k1.out _).mono ?_
 rintro e w1 ⟨A1,c1,rfl,B,D⟩
 go_wp2_with fail
 go_ret2
 exact ⟨A1,c1,by simp,B,D⟩
theorem znu (A:Option Addr) (bs:List Int) (c:Nat) (seed:Int) (w:World) (G:IntsAt w w.heap.size .u8 A bs) (hz:Within 0 255 bs) (J:bs.length≤8000):Calls Tryz.prog 103 #[.int .u8 0, .slice A bs.length c, .int .u32 seed] w (DecodeR (bs.map Cmp.fromMuZ,seed) w):=by
 have H:=Z9 G
 clear G
 go_enter Tryz.func103,Tryz.ntmps103
 go_wp2_with fail
 refine (zbh _).mono ?_
 rintro e w1 ⟨b,b1,b2,rfl,C,D⟩
 have E:=(zbb C 0 (by omega) (by omega)).2
 have N:=Z9 C.l1
 have B:=Z9 D
 have K:=Z9 ((H.out.later D).push (.cells (cLaw b1).cells 148))
 rw [show cAt b1 b2 0=cLaw b1 from rfl,show speechB 0=true from rfl] at E
 simp only [cLaw,cDel] at E
 clear C D H
 have M:=Z9 (N.out.push (.cells (cLaw b1).cells 148))
 go_wp2_with fail
 refine (zuh 160 A bs c b1 _ K.out hz J M.out).mono ?_
 rintro e w2 ⟨A1,c1,rfl,F,I⟩
 have hs:=B.out.size
 have L:=Z9 (F.less (m:=w.heap.size) (by rw [zaq];omega))
 have U:=Z9 (((Bel.later (Bel.refl w) B.out).push (.cells (cLaw b1).cells 148)).later I)
 clear F I B
 go_wp2_with fail
 go_ret2
 exact ⟨A1,c1,by simp,L.out,U.out⟩
theorem zrg (A:Option Addr) (bs:List Int) (c:Nat) (seed:Int) (w:World) (G:IntsAt w w.heap.size .u8 A bs) (hz:Within 0 255 bs) (J:bs.length≤8000):Calls Tryz.prog 103 #[.int .u8 8, .slice A bs.length c, .int .u32 seed] w (DecodeR (bs.map Cmp.fromAZ,seed) w):=by
 have H:=Z9 G
 clear G
 go_enter Tryz.func103,Tryz.ntmps103
 go_wp2_with fail
 refine (zbh _).mono ?_
 rintro e w1 ⟨b,b1,b2,rfl,C,D⟩
 have E:=(zbb C 8 (by omega) (by omega)).2
 have N:=Z9 C.l2
 have B:=Z9 D
 have K:=Z9 ((H.out.later D).push (.cells (cLaw b2).cells 148))
 rw [show cAt b1 b2 8=cLaw b2 from rfl,show speechB 8=true from rfl] at E
 simp only [cLaw,cDel] at E
 clear C D H
 have M:=Z9 (N.out.push (.cells (cLaw b2).cells 148))
 go_wp2_with fail
 refine (zyh 160 A bs c b2 _ K.out hz J M.out).mono ?_
 rintro e w2 ⟨A1,c1,rfl,F,I⟩
 have hs:=B.out.size
 have L:=Z9 (F.less (m:=w.heap.size) (by rw [zaq];omega))
 have U:=Z9 (((Bel.later (Bel.refl w) B.out).push (.cells (cLaw b2).cells 148)).later I)
 clear F I B
 go_wp2_with fail
 go_ret2
 exact ⟨A1,c1,by simp,L.out,U.out⟩
theorem zlr (A:Option Addr) (bs:List Int) (c:Nat) (seed:Int) (w:World) (H:IntsAt w w.heap.size .u8 A bs) (hz:Within 0 255 bs) (P:bs.length≤8000) (hc:bs.length≤c):Calls Tryz.prog 103 #[.int .u8 96, .slice A bs.length c, .int .u32 seed] w (DecodeR (Sb.decS 96 bs,seed) w):=by
 have J:=Z9 H
 clear H
 have hm:bs.length≤maxLen:=by unfold maxLen;omega
 obtain ⟨B,un2⟩:=zwx bs
 go_enter Tryz.func103,Tryz.ntmps103
 go_wp2_with fail
 refine (zbh _).mono ?_
 rintro e w1 ⟨b,b1,b2,rfl,C,E⟩
 have F:=(zbb C 96 (by omega) (by omega)).2
 have D:=Z9 E
 have N:=Z9 ((J.out.later E).push (.cells cDel.cells 148))
 rw [show cAt b1 b2 96=cDel from rfl,show speechB 96=true from rfl] at F
 simp only [cLaw,cDel] at F
 clear C E J
 go_wp2_with fail
 refine (zql 160 A bs c _ N.out hz hc hm).mono ?_
 rintro e w2 ⟨A1,c1,rfl,G,K⟩
 have hs:=D.out.size
 have O:=Z9 (G.less (m:=w.heap.size) (by rw [zaq];omega))
 have U:=Z9 (((Bel.later (Bel.refl w) D.out).push (.cells cDel.cells 148)).later K)
 clear G K D
 generalize Dlt.unpR bs 160=R at *
 obtain ⟨M,V,T,L⟩:=R
 replace B:M=Sb.decS 96 bs:=B
 subst B
 by_cases h4:L=0
 rotate_left
 · have I:=Z9 (show Sb.decS 96 bs=[] from un2 h4)
   clear un2
   go_wp2_with fail
   go_ret2
   exact ⟨none,0,by rw [I.out];rfl,by rw [I.out];exact IntsNew.nil,U.out⟩
 subst h4
 clear un2
 go_wp2_with fail
 go_ret2
 exact ⟨A1,c1,by simp,O.out,U.out⟩
theorem znv (A:Option Addr) (bs:List Int) (c:Nat) (seed:Int) (w:World) (E:IntsAt w w.heap.size .u8 A bs) (hz:Within 0 255 bs) (H:bs.length≤8000) (k:Int) (L:0≤k) (I:k≤255) (J:¬k=13) (hs:¬(k=0∨k=8∨k=96)):Calls Tryz.prog 103 #[.int .u8 k, .slice A bs.length c, .int .u32 seed] w (DecodeR ([],seed) w):=by
 have F:=Z9 E
 clear E
 go_enter Tryz.func103,Tryz.ntmps103
 go_wp2_with fail
 refine (zbh _).mono ?_
 rintro e w1 ⟨b,b1,b2,rfl,C,B⟩
 have D:=(zbb C k (by omega) (by omega)).2
 have G:=Z9 B
 have K:=Z9 ((F.out.later B).push (.cells cNil.cells 148))
 rw [show cAt b1 b2 k=cNil by unfold cAt;rw [if_neg (by omega),if_neg (by omega),if_neg (by omega)],zeq hs] at D
 simp only [cNil] at D
 clear C B F
 go_wp2_with fail
 go_ret2
 exact ⟨none,0,rfl,IntsNew.nil,(Bel.later (Bel.refl w) G.out).push _⟩
theorem ziz (k:Int) (A:Option Addr) (bs:List Int) (c:Nat) (seed:Int) (w:World) (B:IntsAt w w.heap.size .u8 A bs) (hz:Within 0 255 bs) (C:bs.length≤8000) (F:0≤k) (E:k≤255) (s0:0≤seed) (s1:seed≤4294967295) (hc:k=96→bs.length≤c):Calls Tryz.prog 103 #[.int .u8 k, .slice A bs.length c, .int .u32 seed] w (DecodeR (Sb.dec k bs seed) w):=by
 unfold Sb.dec
 by_cases D:k=13
 · subst D
   rw [if_pos rfl]
   by_cases h1:bs.length=1
   · rw [if_pos h1];exact znt A bs c seed w B hz C h1 s0 s1
   · rw [if_neg h1];exact zns A bs c seed w B hz C h1
 rw [if_neg D]
 by_cases h0:k=0
 · subst h0;exact znu A bs c seed w B hz C
 by_cases h2:k=8
 · subst h2;exact zrg A bs c seed w B hz C
 by_cases h3:k=96
 · subst h3;exact zlr A bs c seed w B hz C (hc rfl)
 have e:Sb.decS k bs=[]:=by unfold Sb.decS;rw [if_neg h0,if_neg h2,if_neg h3]
 rw [e]
 exact znv A bs c seed w B hz C k F E D (by omega)
theorem SOwn.drew {l:List TS} (h:SOwn w base A n c l):SOwn w.drew base A n c l:=⟨h.len,h.own,h.pay,h.far,h.new⟩
theorem PB.set {p:Sb.Pt} (h:PB W g p A n c) (i:Nat) (v:Value) (p':Sb.Pt) (hp:(PL p A n c).set i v=PL p' A n c):PB (W.setCell ⟨g,i,none⟩ v) g p' A n c:=by
 have:=Blk.set_ h i v
 unfold PB PA
 rw [← hp]
 unfold PA at this
 simpa using this
structure OkP (a:TW):Prop where
 t0:0≤a.w.m.ty
 t1:a.w.m.ty≤255
 z:Within 0 255 a.w.m.pl
 len:a.w.m.pl.length≤8000
 cap:a.w.m.ty=96→a.w.m.pl.length≤a.c
theorem zeh (k:Int) (pl:List Int) (s:Int) (h0:0≤s) (h1:s≤4294967295):0≤(Sb.dec k pl s).2∧(Sb.dec k pl s).2≤4294967295:=by
 unfold Sb.dec
 split
 · split
   · have e:(Ev.noise (pl.getD 0 0) s 160).2.1=Ev.seed s 160:=by unfold Ev.noise;rw [if_neg (by decide)];rfl
     show 0≤(Ev.noise (pl.getD 0 0) s 160).2.1∧(Ev.noise (pl.getD 0 0) s 160).2.1≤4294967295
     rw [e]
     exact Sb.noise_seed 0 s h0 h1 160
   · exact ⟨h0,h1⟩
 · exact ⟨h0,h1⟩
theorem zay:∀ (l:List Jb.Wt) (s:Int),0≤s→s≤4294967295→0≤(Sb.sounds s l).1∧(Sb.sounds s l).1≤4294967295
 | [],s,h0,h1=>⟨h0,h1⟩
 | a :: l, s, h0, h1 => by
   have h:=zeh a.m.ty a.m.pl s h0 h1
   exact zay l _ h.1 h.2
def SoundsR (p:Sb.Pt) (A:Option Addr) (n c:Nat) (l:List TW) (w:World) (e:Ending) (w':World):Prop :=
 ∃ (A':Option Addr) (c':Nat) (ls:List TS),e = .returned (.tuple #[.agg (PA { p with seed:=(Sb.sounds p.seed (l.map TW.w)).1 } A n c), .slice A' l.length c'])∧ls.map TS.s=(Sb.sounds p.seed (l.map TW.w)).2∧SOwn w' (w.heap.size+3) A' l.length c' ls∧Below w.heap.size w w'
theorem zfz (p:Sb.Pt) (s0:0≤p.seed) (s1:p.seed≤4294967295) (A:Option Addr) (n c:Nat) (X:Array Value) (z:X=PA p A n c) (bV:Option Addr) (l:List TW) (m pc:Nat) (w:World) (hm:l.length=m) (ZP:m≤100000) (hA:Wts w w.heap.size bV l) (As:∀ a∈l,OkP a):Calls Tryz.prog 65 #[.agg X, .slice bV m pc] w (SoundsR p A n c l w):=by
 subst hm
 have HA:=Z9 hA
 have HP:=Z9 As
 clear hA As
 have B:=Z9 (((PB.new w X z).push (.cells (PA Sb.Pt.zero none 0 0) 45)).push (.cells #[.slice none 0 0] 57))
 have E:=Z9 ((Blk.new1 w (.cells X 45) 45 (PA Sb.Pt.zero none 0 0)).push (.cells #[.slice none 0 0] 57))
 have C:=Z9 (Blk.new2 w (.cells X 45) (.cells (PA Sb.Pt.zero none 0 0) 45) 57 #[.slice none 0 0])
 have U0:=Z9 ((((Bel.refl w).push (.cells X 45)).push (.cells (PA Sb.Pt.zero none 0 0) 45)).push (.cells #[.slice none 0 0] 57))
 have tT:∀ (fn:Fn) (first cap:Array Value) (w:World),(Instr.makeFunc fn first cap).run Tryz.prog w = .ok (.func fn first cap) w:=fun _ _ _ _=>rfl
 have x:=Z9 (show (0:Int)≤p.seed∧p.seed≤4294967295 from ⟨s0,s1⟩)
 clear z s0 s1
 go_enter Tryz.func65,Tryz.ntmps65
 go_upto_region 2 with fail
 obtain ⟨W0,Da⟩:=nm9 (((w.alloc (Obj.cells X 45)).alloc (Obj.cells (PA Sb.Pt.zero none 0 0) 45)).alloc (Obj.cells #[.slice none 0 0] 57))
 change Code.wp _ _ _ _ (((w.alloc (Obj.cells X 45)).alloc (Obj.cells (PA Sb.Pt.zero none 0 0) 45)).alloc (Obj.cells #[.slice none 0 0] 57))
 rw [← Da] at B E C U0 ⊢
 clear Da
 go_upto_region 3 with fail
 go_wp2_with fail
 go_loopg [15] l.length (fun gk i wr => ∃ (k:Nat) (A':Option Addr) (c':Nat) (ls:List TS),gk+k=l.length∧i = .int .i64 k∧Hid (ls.map TS.s=(Sb.sounds p.seed ((l.map TW.w).take k)).2)∧Hid (SOwn wr (w.heap.size+3) A' k c' ls)∧Hid (PB wr w.heap.size { p with seed:=(Sb.sounds p.seed ((l.map TW.w).take k)).1 } A n c)∧Hid (Blk wr (w.heap.size+1) 45 (PA Sb.Pt.zero none 0 0))∧Hid (Blk wr (w.heap.size+1+1) 57 #[.slice A' k c'])∧Hid (Bel w wr))
 case atStart=>exact ⟨0,none,0,[],rfl,rfl,Z9 rfl,Z9 SOwn.nil,B,E,C,U0⟩
 case round =>
  obtain ⟨k,A',c',ls,Xf,rfl,V,G,B,E,C,U⟩:=hrel
  have Ct:(0:Int)≤(k:Int):=by omega
  have Df:=C.out.lt
  by_cases hk:k<l.length
  rotate_left
  · obtain rfl:k=l.length:=by omega
    have Cn:(l.length:Int)≤(l.length:Int):=Int.le_refl _
    rw [List.take_of_length_le (by simp)] at V B
    go_upto_region 10 with fail
    obtain ⟨q,hq⟩:∃ q:Sb.Pt,q = { p with seed:=(Sb.sounds p.seed (l.map TW.w)).1 } := ⟨_,rfl⟩
    rw [← hq] at B
    have HQ:=Z9 hq
    have V1:Blk wr.drew (w.heap.size+1) 45 (PL Sb.Pt.zero none 0 0).toArray:=Blk.dr E.out
    have VO:SOwn wr.drew (w.heap.size+3) A' l.length c' ls:=G.out.drew
    have VU:Bel w wr.drew:=Bel.drew U.out
    clear hq
    refine wp_region_held_drew (S:=fun w'=>Blk w' w.heap.size 45 (PL q A n c).toArray∧Blk w' (w.heap.size+1+1) 57 #[.slice A' l.length c']) (by kernel_rfl) ⟨Blk.dr B.out,Blk.dr C.out⟩ (fun M => ?_)
    refine tk1 (i:=0) (v := .agg (PA q A n c)) rfl (zaw rfl 45 (.tmp 2) rfl w.heap.size 0 rfl 45 (PL q A n c) (fun w h=>h.1) 48 _ Tryz.underlying45 zai (Nat.le_refl 48) _ rfl rfl) M ?_
    try simp only [ss9]
    refine tk1 (i:=1) (v := .slice A' l.length c') rfl (Or.inl ⟨by rfl,fun w h=>by have c2:=h.2.at 0 _ rfl;clear h;go_simp;try with_reducible rfl⟩) M ?_
    try simp only [ss9]
    refine rd1 2 (by kernel_rfl) rfl fun K Q=>?_
    refine zam rfl 45 (.tmp 4) (.tmp 39) rfl (w.heap.size+1) 0 rfl 45 _ V1 (PL q A n c) rfl zai (Nat.le_refl 48) rfl (PL q A n c) rfl ?_
    intro WF BF N
    refine Q.out _ _ ⟨N.blk M.1 (by omega),N.blk M.2 (by omega)⟩ (fun Aa => ?_)
    clear Q K
    try simp only [ss9]
    refine tk1 (i:=3) (v := .slice A' l.length c') rfl (Or.inl ⟨by rfl,fun w _=>by go_simp;try with_reducible rfl⟩) Aa ?_
    try simp only [ss9]
    refine wpAnyH_done (by kernel_rfl) ?_ _
    go_wp2_with fail
    refine bodyPost_ret (v := .tuple #[.agg (PA q A n c), .slice A' l.length c']) (zem Tryz.results65 rfl (PB.load BF) rfl) rfl ⟨A',c',ls,by rw [HQ.out],V.out,VO.only N (by omega),N.bel VU (by omega)⟩
  have Cn:(k:Int)<(l.length:Int):=by omega
  obtain ⟨a,L⟩:∃ a,l[k]? = some a:=⟨_,List.getElem?_eq_getElem hk⟩
  obtain ⟨b,off,rfl,Bb,e0,e1,e2,e3,e4,e5⟩:=zes (HA.out.1.keep (fun p hp=>U.out.cell hp)) L
  have Zk:=HP.out a (List.mem_of_getElem? L)
  have o:=(HA.out.2 a (List.mem_of_getElem? L)).keep (w':=wr) (fun p hp=>U.out.cell hp)
  have hm:(l.map TW.w)[k]? = some a.w:=by rw [List.getElem?_map,L];rfl
  have HM:=Z9 hm
  have Zh:=zay ((l.map TW.w).take k) p.seed x.out.1 x.out.2
  obtain ⟨⟨at0,⟨sq0,ti0,Cm,ty0,pl0⟩⟩,t,c0⟩:=a
  obtain ⟨t0,t1,tz,f,g⟩:=Zk
  simp only at e0 e1 e2 e3 e4 e5 t0 t1 tz f g o HM
  have d:Hid (Sb.sounds p.seed ((l.map TW.w).take (k+1))=((Sb.dec ty0 pl0 (Sb.sounds p.seed ((l.map TW.w).take k)).1).2,(Sb.sounds p.seed ((l.map TW.w).take k)).2 ++ [⟨at0,(Sb.dec ty0 pl0 (Sb.sounds p.seed ((l.map TW.w).take k)).1).1,[]⟩])):=Z9 (by rw [Sb.take_snoc HM.out,Sb.sounds_snoc])
  generalize Sb.sounds p.seed ((l.map TW.w).take k)=R at *
  obtain ⟨u,R2⟩:=R
  simp only at Zh d V B
  obtain ⟨d0,d1⟩:=Zh
  have k1:=Z9 fun (W:World) hW=>ziz ty0 t pl0 c0 u W hW tz f t0 t1 d0 d1 g
  have hds:=Z9 (zeh ty0 pl0 u d0 d1)
  generalize Sb.dec ty0 pl0 u=D at *
  obtain ⟨Y,D2⟩:=D
  have T:=Z9 (o.more (Nat.le_trans (Nat.le_refl _) U.out.size))
  clear L hm o tz f g t0 t1
  have F:=Z9 (Blk.new wr 220 #[.int .i64 at0, .int .i64 sq0, .int .i64 ti0, .bool Cm, .int .u8 ty0, .slice t pl0.length c0])
  obtain ⟨W1,Z⟩:=nm9 (wr.alloc (.cells #[.int .i64 at0, .int .i64 sq0, .int .i64 ti0, .bool Cm, .int .u8 ty0, .slice t pl0.length c0] 220))
  have I:=Z9 (show Below wr.heap.size wr W1 by rw [Z];exact (Below.refl _ _).alloc (Nat.le_refl _) _)
  rw [← Z] at F
  go_upto_region 6 with fail
  rw [← Z]
  clear Z e0 e1 e2 e3 e4 e5
  replace B:=Z9 (B.out.later I.out)
  replace E:=Z9 (E.out.later I.out)
  replace C:=Z9 (C.out.later I.out)
  replace G:=Z9 (G.out.below I.out)
  replace T:=Z9 (T.out.later I.out)
  replace U:=Z9 (U.out.later I.out)
  obtain ⟨gx,y⟩:=nm9 wr.heap.size
  rw [← y] at F ⊢
  have Cb:w.heap.size+3≤gx:=by omega
  clear I y
  have x4:=F.out.at 4 _ rfl
  have x5:=F.out.at 5 _ rfl
  have sd:=B.out.cell 45 _ rfl
  go_wp2_with fail
  refine (k1.out _ T.out).mono ?_
  rintro e w2 ⟨A1,c1,rfl,j,J⟩
  clear x4 x5 sd
  have Iv:Hid (0<Y.length→∀ b off,A1=some ⟨b,off,none⟩→some b≠ownB A'∧w.heap.size+3≤b):=Z9 fun h0 b off e=>by
   have h1:=j.2 h0 b off e
   have h2:=F.out.lt
   refine ⟨fun he => ?_,by omega⟩
   have h3:=(G.out.own.block b he.symm).2
   omega
  have HI:=Z9 j.1
  replace B:=Z9 (B.out.later J)
  replace E:=Z9 (E.out.later J)
  replace C:=Z9 (C.out.later J)
  replace F:=Z9 (F.out.later J)
  replace G:=Z9 (G.out.below J)
  replace U:=Z9 (U.out.later J)
  clear J j T
  have sd:=B.out.cell 45 _ rfl
  have sz:=Blk.frozen B.out 45
  go_upto_region 8 with fail
  obtain ⟨W3,P⟩:=nm9 (w2.setCell ⟨w.heap.size,45,none⟩ (.int .u32 D2))
  rw [← P]
  have H:OnlyB w.heap.size w2 W3:=by rw [P];exact OnlyB.setCell _ _ _ _
  replace B:=Z9 (show PB W3 w.heap.size { p with seed:=D2 } A n c by rw [P];exact B.out.set 45 _ _ rfl)
  replace E:=Z9 (H.blk E.out (by omega))
  replace C:=Z9 (H.blk C.out (by omega))
  replace F:=Z9 (H.blk F.out (by omega))
  replace G:=Z9 (G.out.only H (by omega))
  replace U:=Z9 (H.bel U.out (Nat.le_refl _))
  have Px:Hid (IntsAt W3 W3.heap.size .i16 A1 Y):=Z9 fun h0=>by
   obtain ⟨b,off,e,hlt,hc⟩:=HI.out h0
   have:=(Iv.out h0 b off e).2
   exact ⟨b,off,e,by rw [H.2];exact hlt,fun i hi=>(H.cell (show b≠w.heap.size by omega)).trans (hc i hi)⟩
  clear P H sd sz HI
  have x0:=F.out.at 0 _ rfl
  have Pe:=F.out.lt
  go_wp2_with fail
  refine (zut (w.heap.size+3) (w.heap.size+1+1) A' k c' ls at0 A1 Y c1 _ C.out G.out (by omega) (by omega) (by omega) Px.out Iv.out).mono ?_
  rintro e w4 ⟨rfl,A4,c4,B4,O4,O⟩
  have Fi:=Z9 B4
  have F8:=Z9 O4
  replace B:=Z9 (O.blk B.out (by omega) (by omega))
  replace E:=Z9 (O.blk E.out (by omega) (by omega))
  replace U:=Z9 (O.bel U.out (by omega) (by omega))
  clear B4 O4 O x0 Pe C G F
  go_wp2_with fail
  go_roundg (gk-1)
  case measure=>omega
  case rel =>
   refine ⟨k+1,A4,c4,ls ++ [⟨⟨at0,Y,[]⟩,A1,c1⟩],by omega,by go_num,Z9 ?_,F8,?_,E,Fi,U⟩
   · rw [d.out,List.map_append,V.out];rfl
   · rw [d.out];exact B
theorem WtsIn.only {hi:Nat} (h:WtsIn W lo hi A l) (ho:OnlyB g W W') (hg:g<lo):WtsIn W' lo hi A l:=h.keep fun p hp _=>ho.cell (by omega)
theorem WtsIn.step (h:WtsIn W lo W.heap.size A l) (ho:OnlyB g W W') (hg:g<lo):WtsIn W' lo W'.heap.size A l:=by rw [ho.2];exact h.only ho hg
theorem WtsIn.later (h:WtsIn W lo W.heap.size A l) (hb:Below W.heap.size W W'):WtsIn W' lo W'.heap.size A l:=(h.below hb (Nat.le_refl _)).more hb.size
structure OkW (a:Jb.Wt):Prop where
 t0:0≤a.m.ty
 t1:a.m.ty≤255
 z:Within 0 255 a.m.pl
 len:a.m.pl.length≤8000
theorem OkW.okP {a:TW} (h:OkW a.w) (hc:a.w.m.pl.length≤a.c):OkP a:=⟨h.t0,h.t1,h.z,h.len,fun _=>hc⟩
theorem znw {q:List Jb.Wt} (hl:l.map TW.w=q) (h:∀ a∈q,OkW a) (hc:∀ a∈l,a.w.m.pl.length≤a.c):∀ a∈l,OkP a:=fun a A=>(h a.w (by rw [← hl];exact List.mem_map_of_mem A)).okP (hc a A)
def PlayR (p:Sb.Pt) (now v:Int) (w:World) (e:Ending) (w':World):Prop :=
 ∃ (A':Option Addr) (n' c':Nat) (l':List TW) (SA:Option Addr) (sc m:Nat) (ls:List TS) (base aQ:Nat),e = .returned (.tuple #[.agg (PA (Sb.run p now).1 A' n' c'), .int .u8 v, .slice SA m sc, .int .u8 0])∧l'.map TW.w=(Sb.run p now).1.jt.q∧l'.length=n'∧n'≤c'∧c'≤maxLen∧WtsIn w' w.heap.size aQ A' l'∧aQ≤base∧aQ≤w'.heap.size∧ls.map TS.s=(Sb.run p now).2∧w.heap.size≤base∧SOwn w' base SA m sc ls∧Below w.heap.size w w'
theorem zja (p:Sb.Pt) (hw:p.wf) (A:Option Addr) (l:List TW) (n c:Nat) (X:Array Value) (o:X=PA p A n c) (w:World) (hq:l.map TW.w=p.jt.q) (hn:l.length=n) (hl:n≤100000) (Av:n≤c) (Dq:c≤maxLen) (y:Wts w w.heap.size A l) (x:∀ a∈l,I64 a.w.m.sq) (now v:Int) (he:(Jb.run p.jt now).2.2=0) (u:∀ a∈(Jb.run p.jt now).2.1,OkW a) (hm:(Jb.run p.jt now).2.1.length≤100000):Calls Tryz.prog 51 #[.agg X, .int .i64 now, .int .u8 v] w (PlayR p now v w):=by
 have C:=Z9 ((PB.new w X o).push (.cells (PA Sb.Pt.zero none 0 0) 45))
 have D:=Z9 (Blk.new1 w (.cells X 45) 45 (PA Sb.Pt.zero none 0 0))
 have B:=Z9 (((Bel.refl w).push (.cells X 45)).push (.cells (PA Sb.Pt.zero none 0 0) 45))
 have d:=Z9 ((y.push (.cells X 45)).push (.cells (PA Sb.Pt.zero none 0 0) 45))
 have k1:=Z9 fun (W:World) G=>zrf p.jt A l n c now W hq hn hl Av Dq G x
 have HP:Hid (PlayR p now v w=fun e w' => ∃ (A':Option Addr) (n' c':Nat) (l':List TW) (L:Option Addr) (sc m:Nat) (ls:List TS) (base b:Nat),e = .returned (.tuple #[.agg (PA { p with jt:=(Jb.run p.jt now).1,seed:=(Sb.sounds p.seed (Jb.run p.jt now).2.1).1 } A' n' c'), .int .u8 v, .slice L m sc, .int .u8 0])∧l'.map TW.w=(Jb.run p.jt now).1.q∧l'.length=n'∧n'≤c'∧c'≤maxLen∧WtsIn w' w.heap.size b A' l'∧b≤base∧b≤w'.heap.size∧ls.map TS.s=(Sb.sounds p.seed (Jb.run p.jt now).2.1).2∧w.heap.size≤base∧SOwn w' base L m sc ls∧Below w.heap.size w w'):=Z9 rfl
 rw [HP.out]
 clear HP
 unfold JRunW at k1
 unfold JV at k1
 have HO:=Z9 u
 obtain ⟨R,t⟩:=nm9 (Jb.run p.jt now)
 rw [← t] at k1 HO he hm ⊢
 clear t
 obtain ⟨E,R2,R3⟩:=R
 obtain rfl:R3=0:=he
 have Ir:=hw.seed.1
 have Ib:=hw.seed.2
 clear o y x hq u
 go_enter Tryz.func51,Tryz.ntmps51
 go_upto_region 1 with fail
 change Code.wp _ _ _ _ ((w.alloc (Obj.cells X 45)).alloc (Obj.cells (PA Sb.Pt.zero none 0 0) 45))
 obtain ⟨W,G⟩:=nm9 ((w.alloc (Obj.cells X 45)).alloc (Obj.cells (PA Sb.Pt.zero none 0 0) 45))
 rw [← G] at C D B d ⊢
 clear G
 obtain ⟨wH,wG,sL,wF,wE,wD,wC,wB,wA,vZ,vY,vX,vW,vV⟩:=C.out.jt
 have hL:=D.out.lt
 go_wp2_with fail
 refine (k1.out _ d.out).mono ?_
 rintro e w1 ⟨A1,c1,l1,A2,c2,l2,rfl,V,Dd,K,F,Iz,Ay,Y,Cy,Be⟩
 clear wH wG sL wF wE wD wC wB wA vZ vY vX vW vV
 replace B:=Z9 (B.out.later Y)
 replace C:=Z9 (C.out.later Y)
 replace D:=Z9 (D.out.later Y)
 have aJ:=Z9 V
 have aI:=Z9 Dd
 have Pw:=Z9 (znw V HO.out K.cap)
 have Sp:l1.length≤100000:=by have:=congrArg List.length V;simp at this hm;omega
 have h:=Z9 (Blk.new w1 37 (JW E A2 l2.length c2).toArray)
 obtain ⟨g1,U⟩:=nm9 w1.heap.size
 have YP:=B.out.size
 have OO:=D.out.lt
 obtain ⟨W1,O⟩:=nm9 (w1.alloc (.cells (JW E A2 l2.length c2).toArray 37))
 have I:=Z9 (show Below w1.heap.size w1 W1 by rw [O];exact (Below.refl _ _).alloc (Nat.le_refl _) _)
 have zZ:Hid (g1=w1.heap.size):=Z9 U
 rw [← U,← O] at h
 go_upto_region 4 with fail
 rw [← U]
 change Code.wp _ _ _ _ (w1.alloc (Obj.cells (JW E A2 l2.length c2).toArray 37))
 rw [← O]
 replace B:=Z9 (B.out.later I.out)
 replace C:=Z9 (C.out.later I.out)
 replace D:=Z9 (D.out.later I.out)
 have Tt:=Z9 (K.later I.out)
 have j:=Z9 (F.later I.out)
 clear Y V Dd O U K F I d
 have Ax:=Blk.lt C.out
 go_upto_region 5 with (first|(refine zaf rfl 37 (.tmp 10) rfl (g1) 0 rfl 37 (JW E A2 l2.length c2) h.out 14 _ Tryz.underlying37 zbg (show 0+14≤14 by decide) ((JW E A2 l2.length c2).toArray) (by rfl) rfl ?_)|(refine zag rfl 37 (.tmp 27) (.tmp 26) rfl (w.heap.size) 14 rfl 45 (PL p A n c) C.out (JW E A2 l2.length c2) rfl zbg (show 14+14≤48 by decide) rfl (PL { p with jt:=E } A2 l2.length c2) rfl ?_;intro WF i M))
 obtain ⟨q1,N⟩:∃ q:Sb.Pt,q = { p with jt:=E } := ⟨_,rfl⟩
 rw [← N] at i
 have K:=Z9 (Tt.out.step M (by omega))
 have F:=Z9 (j.out.step M (by omega))
 replace B:=Z9 (M.bel B.out (Nat.le_refl _))
 replace D:=Z9 (M.blk D.out (by omega))
 replace C:=Z9 i
 have P:=Z9 fun (W:World) G=>zfz q1 (by rw [N];exact Ir) (by rw [N];exact Ib) A2 l2.length c2 (PA q1 A2 l2.length c2) rfl A1 l1 l1.length c1 W rfl Sp G Pw.out
 unfold SoundsR at P
 rw [aJ.out] at P
 obtain ⟨q2,g⟩:∃ q:Sb.Pt,q = { q1 with seed:=(Sb.sounds q1.seed R2).1 } := ⟨_,rfl⟩
 rw [← g] at P
 have Us:=Z9 N
 have Td:=Z9 g
 clear N g i M Tt j h Ir Ib
 go_wp2_with (first|(refine zaf rfl 45 (.tmp 3) rfl (w.heap.size) 0 rfl 45 (PL q1 A2 l2.length c2) C.out 48 _ Tryz.underlying45 zai (show 0+48≤48 by decide) (PA q1 A2 l2.length c2) (by rfl) rfl ?_)|fail)
 refine (P.out _ K.out.rows).mono ?_
 rintro e w3 ⟨L,sc,ls,rfl,Ic,z,J⟩
 have Aj:w.heap.size≤WF.heap.size:=B.out.size
 replace B:=Z9 (B.out.later J)
 have Q:=Z9 (PB.later C.out J)
 have f:=Z9 (D.out.later J)
 replace F:=Z9 (F.out.below J (Nat.le_refl _))
 have Xv:=Z9 Ic
 have Z:=Z9 z
 have mV:=J.size
 clear Ic z J K C D
 go_upto_region 6 with (first|(refine zag rfl 45 (.tmp 3) (.tmp 32) rfl (w.heap.size) 0 rfl 45 (PL q1 A2 l2.length c2) Q.out (PL q2 A2 l2.length c2) rfl zai (show 0+48≤48 by decide) rfl (PL q2 A2 l2.length c2) rfl ?_;intro WG BG H)|fail)
 have Js:=Z9 (F.out.only H (by omega))
 have F9:WF.heap.size≤WG.heap.size:=by rw [H.2];exact mV
 have nA:w.heap.size<WF.heap.size+3:=by omega
 replace B:=Z9 (H.bel B.out (Nat.le_refl _))
 replace f:=Z9 (H.blk f.out (by omega))
 replace Z:=Z9 (Z.out.only H nA)
 have GO:=Z9 BG
 clear BG H F Q
 have zY:w.heap.size+1<WF.heap.size+3:=by have:=zZ.out;omega
 go_wp2_with (first|(refine zaf rfl 45 (.tmp 3) rfl (w.heap.size) 0 rfl 45 (PL q2 A2 l2.length c2) GO.out 48 _ Tryz.underlying45 zai (show 0+48≤48 by decide) (PA q2 A2 l2.length c2) (by rfl) rfl ?_)|(refine zag rfl 45 (.tmp 6) (.tmp 34) rfl (w.heap.size+1) 0 rfl 45 (PL Sb.Pt.zero none 0 0) f.out (PL q2 A2 l2.length c2) rfl zai (show 0+48≤48 by decide) rfl (PL q2 A2 l2.length c2) rfl ?_;intro WH BH T)|fail)
 have F7:WF.heap.size≤WH.heap.size:=by rw [T.2];exact F9
 have fJ:=(Js.out.only T hL).less (lo':=w.heap.size) (by omega)
 refine bodyPost_ret (v := .tuple #[.agg (PA q2 A2 l2.length c2), .int .u8 v, .slice L l1.length sc, .int .u8 0]) (zbp Tryz.results51 rfl (PB.load BH) rfl rfl rfl) rfl ⟨A2,l2.length,c2,l2,L,sc,l1.length,ls,WF.heap.size+3,WF.heap.size,?_,aI.out,rfl,Iz,Ay,fJ,by omega,F7,?_,by omega,Z.out.only T zY,T.bel B.out (by omega)⟩
 · rw [Td.out,Us.out]
 · rw [Xv.out,Us.out]
end
namespace Sb
open Go.RowKit
theorem new_src {c l m s:Int} (hs:speechB c=true) (hc:Jb.cfg l m):new c s l m=({ Pt.zero with codec:=c,src:=s,mrk:=true,jt:=(Jb.new l m).1,seed:=s }, 0):=by
 unfold new
 rw [if_neg (by rw [hs];decide),if_pos hc]
inductive SentV (c:Int) (p:Pt) (zs:List Int) (q:Pt):List Pkt→Prop where
 | none (h2:q.cv=p.cv∧q.ci=p.ci):SentV c p zs q []
 | noise (k:Pkt) (h1:k.ty=13) (h2:k.src=p.src) (z:Int) (h3:k.pl=[z]) (h4:0≤z∧z≤127):SentV c p zs q [k]
 | speech (k:Pkt) (h1:k.ty=c) (h2:k.src=p.src) (h3:k.pl=(enc c (p.cv,p.ci) zs).1):SentV c p zs q [k]
theorem SpkI.sent {c:Int} {p:Pt} (h:SpkI c p i sq) (zs:List Int) (hz:∀ z∈zs, -32768≤z∧z≤32767):SentV c p zs (send0 p zs).1 (send0 p zs).2:=by
 have ht:¬(p.tn.on=true∨p.tn.ends≠0):=by rw [h.tn];decide
 have hc:=h.codec
 unfold send0
 rw [if_neg ht]
 split
 · split
   · have:=Ev.lev_bd zs hz
     exact .noise _ rfl rfl _ rfl (by omega)
   · exact .none ⟨rfl,rfl⟩
 · exact .speech _ hc rfl (by subst hc;rfl)
theorem LisE.startS {trip c l m s:Int} (hs:speechB c=true) (hc:Jb.cfg l m) (t0:0≤trip) (s0:0≤s) (s1:s≤4294967295):LisE l m trip (new c s l m).1 0 0 0:=by
 have h:=LisE.start (trip:=trip) hs hc t0
 rw [new_src hs hc] at h ⊢
 exact ⟨⟨h.wf.codec,⟨s0,s1⟩,h.wf.seq,h.wf.time,h.wf.below,h.wf.tvol,h.wf.tcode,h.wf.tst,⟨s0,s1⟩,h.wf.pk,h.wf.oc⟩,h.sp,h.cod,h.tn,h.tk,h.ht,h.jt,h.hi,h.now,h.hl⟩
theorem LisE.play {trip:Int} {u:Pt} (h:LisE ls mo trip u i sq hi) (B:i<40) (hs:sq≤i) (t0:0≤trip) (t1:trip≤65535) :
 LisE ls mo trip (run u (20*(i:Int)+trip)).1 (i+1) sq hi∧(run u (20*(i:Int)+trip)).2=(sounds u.seed (Jb.due (20*(i:Int)+trip) u.jt.q)).2∧(run u (20*(i:Int)+trip)).1.jt.q=Jb.left (20*(i:Int)+trip) u.jt.q:=by
 have hr:Jb.run u.jt (20*(i:Int)+trip)=(Jb.run0 u.jt (20*(i:Int)+trip),Jb.due (20*(i:Int)+trip) u.jt.q,0):=by
  unfold Jb.run;rw [Jb.chk_run h.jt.sm.ok h.now (by omega),if_pos rfl]
 have A:=(h.jt.run (by omega) (20*(i:Int)+trip) h.now (by omega))
 unfold run
 rw [hr]
 refine ⟨⟨?_,h.sp,h.cod,h.tn,h.tk,h.ht,A,h.hi,?_,h.hl⟩,rfl,rfl⟩
 · exact ⟨h.wf.codec,h.wf.src,h.wf.seq,h.wf.time,h.wf.below,h.wf.tvol,h.wf.tcode,h.wf.tst,zay _ _ h.wf.seed,h.wf.pk,h.wf.oc⟩
 · show 20*(i:Int)+trip≤_
   push_cast;omega
theorem decS_bd (c:Int) (pl:List Int) (hz:∀ z∈pl,0≤z∧z≤255):∀ z∈decS c pl, -32768≤z∧z≤32767:=by
 unfold decS
 split
 · intro z h
   obtain ⟨x,hx,rfl⟩:=List.mem_map.1 h
   have:=Cmp.fromMu_bd x.toNat (by have:=hz x hx;omega)
   unfold Cmp.fromMuZ;omega
 split
 · intro z h
   obtain ⟨x,hx,rfl⟩:=List.mem_map.1 h
   have:=Cmp.fromA_bd x.toNat (by have:=hz x hx;omega)
   unfold Cmp.fromAZ;omega
 split
 · split
   · rename_i hk
     intro z h
     obtain ⟨j,_,rfl⟩:=List.mem_map.1 h
     have h1:=Dlt.dAt_valid (Dlt.headS pl) (Dlt.headS_valid pl 160 hk hz) pl (j+1)
     simp [Dlt.valid] at h1
     omega
   · intro z h;cases h
 · intro z h;cases h
structure Hop (c:Int) (p u:Pt) (i:Nat) (tk:Option Sd):Prop where
 ex:∃ (sq:Nat) (hi:Int),SpkI c p i sq∧LisE 20 200 0 u i sq hi
 q:F2 mQ u.jt.q tk.toList
 at_:∀ a∈u.jt.q,a.at_=20*(i:Int)∧OkW a
theorem znx {q:List Jb.Wt} (h:∀ a∈q,a.at_≤now):Jb.due now q=q∧Jb.left now q=[] :=
 Jb.while_all (fun w:Jb.Wt=>decide (w.at_≤now)) q fun x hx=>decide_eq_true (h x hx)
theorem Hop.start {c s:Int} (hs:speechB c=true) (s0:0≤s) (s1:s≤4294967295):Hop c (new c s 20 200).1 (new c s 20 200).1 0 none:=by
 have hc:Jb.cfg 20 200:=by decide
 have h:=(SpkI.startS hs hc s0 s1).1
 refine ⟨⟨0,0,h,LisE.startS hs hc (by decide) s0 s1⟩,by rw [h.jq];exact .nil,by rw [h.jq];intro a A;cases A⟩
theorem Hop.due {c:Int} {p u:Pt} {tk:Option Sd} (h:Hop c p u i tk) (hi:i<40):Jb.due (20*(i:Int)) u.jt.q=u.jt.q∧Jb.left (20*(i:Int)) u.jt.q=[] :=
 znx fun a A=>by have:=(h.at_ a A).1;omega
theorem Hop.lis {c:Int} {p u:Pt} {tk:Option Sd} (h:Hop c p u i tk) (hi:i<40):chkT u (20*(i:Int))=0∧u.wf∧u.jt.q.length≤1∧u.jt.ok∧∀ a∈u.jt.q,OkW a:=by
 obtain ⟨sq,B,hp,hu⟩:=h.ex
 have h1:=hp.le
 refine ⟨hu.chk (by omega) _ (by omega) (by omega),hu.wf,?_,hu.jt.sm.ok,fun a A=>(h.at_ a A).2⟩
 have:=h.q.len
 rw [this];cases tk<;>simp
theorem Hop.spk {c:Int} {p u:Pt} {tk:Option Sd} (h:Hop c p u i tk):p.valid=true∧p.wf∧p.jt.q=[]∧p.tn.on=false∧p.tn.ends=0∧speechB c=true:=by
 obtain ⟨sq,A,hp,hu⟩:=h.ex
 exact ⟨hp.valid,hp.wf,hp.jq,by rw [hp.tn];rfl,by rw [hp.tn];rfl,hp.sp⟩
inductive TkK (at_:Int):Int→List Int→Option Sd→Prop where
 | none:TkK at_ 0 [] none
 | speech (zs:List Int) (h:zs.length=160):TkK at_ 1 zs (some ⟨at_,zs,[]⟩)
 | noise:TkK at_ 2 [] (some ⟨at_,[],[]⟩)
theorem TkK.snd {at_:Int} {zs:List Int} {tk:Option Sd} {sds:List Sd} (h:TkK at_ kd zs tk) (hs:F2 mG sds tk.toList):(kd=0∧sds=[])∨∃ d,sds=[d]∧d.at_=at_∧d.zs.length=160∧(kd=2∨(kd=1∧d.zs=zs)):=by
 cases h with
 | none=>cases hs;exact .inl ⟨rfl,rfl⟩
 | speech zs h =>
   cases hs with
   | cons hr ht =>
     cases ht
     obtain ⟨h1,h2,h3⟩:=hr
     refine .inr ⟨_,rfl,h1,h2, .inr ⟨rfl,?_⟩⟩
     rcases h3 with h3|h3
     · replace h3:zs=[]:=h3
       rw [h3] at h;cases h
     · exact h3
 | noise =>
   cases hs with
   | cons hr ht =>
     cases ht
     exact .inr ⟨_,rfl,hr.1,hr.2.1, .inl rfl⟩
def sumA (fs:List (List Int)) (i:Nat):Int:=(fs.map fun f=>f.getD i 0).sum
def satI (x:Int):Int:=min (max x (-32768)) 32767
def mixL (fs:List (List Int)) (k:Nat):List Int:=(List.range 160).map fun i=>satI (sumA fs i-(fs.getD k []).getD i 0)
end Sb
section
attribute [local go_sem ↓] zab zac
attribute [local go_sem] zaa zad
open Go.RowKit
structure TF where
 A:Option Addr
 c:Nat
 zs:List Int
def TF.row (a:TF):List Value:=[.slice a.A a.zs.length a.c]
def Frs (w:World) (n:Nat) (A:Option Addr) (l:List TF):Prop:=RowsAt w n 1 TF.row A l∧∀ a∈l,IntsAt w n .i16 a.A a.zs
structure OkF (l:List TF):Prop where
 len:l.length≤64
 z160:∀ a∈l,a.zs.length≤160
 bd:∀ a∈l,Within (-32768) 32767 a.zs
theorem zwy:(Tryz.prog.info? 3).map (fun i=>(i.zero,i.size,i.bytes))=some (some (.int .i64 0),1,8):=by kernel_rfl
def SumR (fs:List (List Int)) (w:World) (e:Ending) (w':World):Prop:=e = .returned (.tuple #[.slice (some ⟨w.heap.size,0,none⟩) 160 160, .int .u8 0])∧w'.rowIs w.heap.size 3 160 (fun j => .int .i64 (Sb.sumA fs j))∧Below w.heap.size w w'
theorem zny (z:Value) (n:Nat):madeCells #[z] n=(List.replicate n z).toArray:=by
 have h:=toList_madeCells_one z n
 rw [← h]
structure MxS (w wr:World) (g0 gM gO n:Nat) (fs:List (List Int)) (hs:List TF):Prop where
 sums:wr.rowIs g0 3 160 (fun j => .int .i64 (Sb.sumA fs j))
 mix:Blk wr gM 51 (hs.flatMap TF.row++List.replicate (n-hs.length) (Value.slice none 0 0)).toArray
 own:∃ cur:List Value,cur.length=160∧Blk wr gO 104 cur.toArray
 val:hs.map TF.zs=(List.range hs.length).map (Sb.mixL fs)
 ints:∀ a∈hs,IntsNew (gO+1) wr .i16 a.A a.zs
 b:Below w.heap.size w wr
 o1:w.heap.size≤g0
 o2:g0<gM
 o3:gM<gO
 o4:gO<wr.heap.size
section
variable {w wr w':World} {g0 gM gO n:Nat} {fs:List (List Int)} {hs:List TF}
theorem IntsNew.onlyB {m:Nat} {k:IntKind} {zs:List Int} (h:IntsNew m w k A zs) (ho:OnlyB g w w') (hg:g<m):IntsNew m w' k A zs:=by
 refine ⟨fun h0 => ?_,h.2⟩
 obtain ⟨b,off,e,hb,hc⟩:=h.1 h0
 have h2:=h.2 h0 b off e
 exact ⟨b,off,e,by rw [ho.2];exact hb,fun i hi=>(ho.cell (p:=⟨b,off+i,none⟩) (by show b≠g;omega)).trans (hc i hi)⟩
theorem MxS.later (h:MxS w wr g0 gM gO n fs hs) (hb:Below wr.heap.size wr w'):MxS w w' g0 gM gO n fs hs:=by
 have h1:=h.o2;have h2:=h.o3;have h3:=h.o4
 obtain ⟨cur,hl,hB⟩:=h.own
 exact ⟨h.sums.of_block (hb.block _ (by omega)),h.mix.later hb,⟨cur,hl,hB.later hb⟩,h.val,fun a A=>(h.ints a A).later hb,h.b.trans (hb.mono h.b.size),h.o1,h.o2,h.o3,Nat.lt_of_lt_of_le h.o4 hb.size⟩
end
def MixR (fs:List (List Int)) (w:World) (e:Ending) (w':World):Prop:=∃ (gM:Nat) (hs:List TF),e = .returned (.tuple #[.slice (some ⟨gM,0,none⟩) fs.length fs.length, .int .u8 0])∧hs.map TF.zs=(List.range fs.length).map (Sb.mixL fs)∧w.heap.size≤gM∧RowsAt w' w'.heap.size 1 TF.row (some ⟨gM,0,none⟩) hs∧(∀ a∈hs,IntsNew w.heap.size w' .i16 a.A a.zs)∧Below w.heap.size w w'
def SortR (n gI:Nat) (V:World) (e:Ending) (w':World):Prop:=e = .returned (.tuple #[])∧Chg [gI] V w'∧∃ f':Nat→Nat,w'.rowIs gI 3 n (fun j => .int .i64 (f' j))∧∀ j,j<n→f' j<n
theorem zrh (x:Value) (A:Value) (V:World):Calls Tryz.prog 139 #[x, .int .i64 0, .int .i64 1,A] V fun e w'=>e = .returned (.tuple #[])∧w'=V:=by
 go_enter Tryz.func139,Tryz.ntmps139
 go_wp2_with fail
 go_loopw [8] (fun i wr=>i = .int .i64 1∧wr=V) (fun i _=>0)
 case atStart=>exact ⟨rfl,rfl⟩
 case round =>
  obtain ⟨rfl,rfl⟩:=hrel
  go_wp2_with fail
  go_end0;exact ⟨rfl,rfl⟩
theorem znz (x:Value) (A:Value) (V:World):Calls Tryz.prog 137 #[x, .int .i64 1,A] V fun e w'=>e = .returned (.tuple #[])∧w'=V:=by
 have k1:=Z9 (zrh x A)
 go_enter Tryz.func137,Tryz.ntmps137
 go_wp2_with fail
 go_loopw [7,8] (fun C B wr=>C = .int .i64 0∧B = .int .i64 20∧wr=V) (fun _ _ _=>0)
 case atStart=>exact ⟨rfl,rfl,rfl⟩
 case round =>
  obtain ⟨rfl,rfl,rfl⟩:=hrel
  go_wp2_with fail
  refine (k1.out _).mono ?_
  rintro e w1 ⟨rfl,rfl⟩
  go_wp2_with fail
  go_loopw [6] (fun D wr=>D = .int .i64 20∧wr=w1) (fun _ _=>0)
  case atStart=>exact ⟨rfl,rfl⟩
  case round =>
   obtain ⟨rfl,rfl⟩:=hrel
   go_wp2_with fail
   go_end0;exact ⟨rfl,rfl⟩
theorem zoa (A:Option Addr) (c:Nat) (B:Value) (V:World):Calls Tryz.prog 133 #[.slice A 1 c,B] V fun e w'=>e = .returned (.tuple #[])∧w'=V:=by
 have k1:=Z9 (znz (.slice A 1 c) B)
 go_enter Tryz.func133,Tryz.ntmps133
 go_wp2_with fail
 refine (k1.out _).mono ?_
 rintro e w1 ⟨rfl,rfl⟩
 go_wp2_with fail
 go_end0;exact ⟨rfl,rfl⟩
def OrdR (ps:List Pc) (W:World) (e:Ending) (w':World):Prop:=∃ (A':Option Addr) (c':Nat) (Yg:List Pc),e = .returned (.slice A' ps.length c')∧Yg.length=ps.length∧(∀ p∈Yg,p∈ps)∧Owns w' W.heap.size 255 10 A' ps.length c' (Yg.flatMap Pc.row)∧Below W.heap.size W w'
theorem zys (n:Nat):(madeCells #[.bool false, .int .i64 0, .bool false, .int .i64 0, .int .i64 0, .string { data := #[] }, .string { data := #[] }, .int .i64 0, .bool false, .slice none 0 0] (n*10)).size=n*10:=size_madeCells _ _
theorem zuu (A:Option Addr) (c:Nat) (ps:List Pc) (R:Value) (W:World) (N:RowsAt W W.heap.size 10 Pc.row A ps) (hl:ps.length≤1000) (h0:0<ps.length)
 (M:∀ (V:World) (G:Nat) (f:Nat→Nat),W.heap.size≤G→Below W.heap.size W V→V.rowIs G 3 ps.length (fun j => .int .i64 (f j))→(∀ j,j<ps.length→f j<ps.length)→Calls Tryz.prog 133 #[.slice (some ⟨G,0,none⟩) ps.length ps.length,R] V (SortR ps.length G V)) :
 Calls Tryz.prog 111 #[.slice A ps.length c,R] W (OrdR ps W):=by
 have Bm:=run_make_row' (P:=Tryz.prog) 118 3 (.int .i64 0) 8 Tryz.underlying118 zwy rfl .i64 .i64 ps.length (by omega) (by omega) W
 obtain ⟨W1,I⟩:=nm9 (W.alloc (.cells (madeCells #[.int .i64 0] ps.length) 3))
 have z:W1.rowIs W.heap.size 3 ps.length (fun _ => .int .i64 0):=by rw [I];exact World.rowIs_made W _ _ _
 have K:Below W.heap.size W W1:=by rw [I];exact (Below.refl _ _).alloc (Nat.le_refl _) _
 rw [← I] at Bm
 obtain ⟨fi,v,X,o,u⟩:=info_parts zdl
 have ZQ:∀ V:World,(Instr.makeSlice 251 (.int .i64 0) (.int .i64 (ps.length:Int))).run Tryz.prog V = .ok (.slice (some ⟨V.heap.size,0,none⟩) 0 ps.length) (V.alloc (.cells (madeCells #[.bool false, .int .i64 0, .bool false, .int .i64 0, .int .i64 0, .string { data := #[] }, .string { data := #[] }, .int .i64 0, .bool false, .slice none 0 0] (ps.length*10)) 255)):=fun V=>by
  have h:=run_make (P:=Tryz.prog) V 251 255 fi _ Tryz.underlying251 v X .i64 .i64 0 (ps.length:Int) (Int.le_refl _) (by omega) (by rw [u];omega) (by omega)
  rw [o,Int.toNat_natCast] at h
  exact h
 clear I v X o u
 have KR:=Z9 N
 have KS:=Z9 M
 have l:=Z9 z
 have cF:=Z9 K
 clear N M z K
 have Ic:=l.out.lt
 go_enter Tryz.func111,Tryz.ntmps111
 go_wp2_with fail
 go_loopw [15] (fun i wr => ∃ k:Nat,k≤ps.length∧i = .int .i64 k∧Hid (wr.rowIs W.heap.size 3 ps.length (fun j => .int .i64 ((if j<k then j else 0:Nat):Int)))∧Hid (Below W.heap.size W wr)) (fun i _=>ps.length-(intOf i).toNat)
 case atStart=>exact ⟨0,Nat.zero_le _,rfl,Z9 (l.out.congr (fun j _=>by simp)),cF⟩
 case round =>
  obtain ⟨k,hk,rfl,HR,B⟩:=hrel
  have Ct:(0:Int)≤(k:Int):=by omega
  by_cases hlt:k<ps.length
  · have T:=HR.out.cell hlt
    have Uh:=HR.out.frozen k
    have jH:=HR.out.lt
    have Cn:(k:Int)<(ps.length:Int):=by omega
    go_wp2_with fail
    refine ⟨⟨k+1,by omega,by simp,Z9 ?_,Z9 (B.out.setCell (Nat.le_refl _) _)⟩,?_⟩
    · have Wn:=HR.out.congr (g:=fun j => .int .i64 (if j<k then (j:Int) else 0)) (fun j C=>by by_cases h:j<k<;>simp [h])
      have h3:=zbf (g:=fun j=>(j:Int)) Wn
      refine h3.congr (fun j C => ?_)
      by_cases h:j<k+1<;>simp [h]
    · simp [intOf];omega
  · obtain rfl:k=ps.length:=by omega
    have hn:¬(ps.length:Int)<(ps.length:Int):=by omega
    have U:wr.rowIs W.heap.size 3 ps.length (fun j => .int .i64 ((id j:Nat):Int)):=HR.out.congr (fun j C=>by simp [C])
    have ks:=Z9 (KS.out wr W.heap.size id (Nat.le_refl _) B.out U (fun j C=>C))
    clear U
    go_wp2_with fail
    refine ks.out.mono ?_
    rintro e w2 ⟨rfl,F,O,y,Y⟩
    have n:=Z9 y
    have Q:=Z9 Y
    have J:Hid (Below W.heap.size W w2):=Z9 ⟨F.os.trans B.out.os,F.tape.trans B.out.tape,F.output.trans B.out.output,Nat.le_trans B.out.size F.size,fun k hk=>(F.block k (Nat.lt_of_lt_of_le hk B.out.size) (by simp;omega)).trans (B.out.block k hk)⟩
    clear y Y F hlt hn
    have Dd:=n.out.lt
    have Bu:=J.out.size
    go_wp2_with fail
    have E:Hid (Owns (w2.alloc (.cells (madeCells #[.bool false, .int .i64 0, .bool false, .int .i64 0, .int .i64 0, .string { data := #[] }, .string { data := #[] }, .int .i64 0, .bool false, .slice none 0 0] (ps.length*10)) 255)) (W.heap.size+1) 255 10 (some ⟨w2.heap.size,0,none⟩) 0 ps.length []):=Z9 (World.ownsRow_made w2 _ ps.length (by omega) (by unfold maxLen;omega) (zys _))
    have L:=Z9 (n.out.alloc (.cells (madeCells #[.bool false, .int .i64 0, .bool false, .int .i64 0, .int .i64 0, .string { data := #[] }, .string { data := #[] }, .int .i64 0, .bool false, .slice none 0 0] (ps.length*10)) 255))
    have t:=Z9 (J.out.alloc J.out.size (.cells (madeCells #[.bool false, .int .i64 0, .bool false, .int .i64 0, .int .i64 0, .string { data := #[] }, .string { data := #[] }, .int .i64 0, .bool false, .slice none 0 0] (ps.length*10)) 255))
    generalize w2.alloc (.cells (madeCells #[.bool false, .int .i64 0, .bool false, .int .i64 0, .int .i64 0, .string { data := #[] }, .string { data := #[] }, .int .i64 0, .bool false, .slice none 0 0] (ps.length*10)) 255)=W3 at E L t ⊢
    go_loopw [7,31] (fun a i wr => ∃ (j:Nat) (A':Option Addr) (c':Nat) (D:List Pc),j≤ps.length∧i = .int .i64 j∧a = .slice A' j c'∧Hid (D.length=j∧∀ p∈D,p∈ps)∧Hid (Owns wr (W.heap.size+1) 255 10 A' j c' (D.flatMap Pc.row))∧Hid (wr.rowIs W.heap.size 3 ps.length (fun j => .int .i64 (O j)))∧Hid (Below W.heap.size W wr)) (fun _ i _=>ps.length-(intOf i).toNat)
    case atStart=>exact ⟨0,_,_,[],Nat.zero_le _,rfl,rfl,Z9 ⟨rfl,fun p hp=>by cases hp⟩,E,L,t⟩
    case round =>
     obtain ⟨j,A',c',D,C,rfl,rfl,H,E,HR,B⟩:=hrel
     have Ct:(0:Int)≤(j:Int):=by omega
     by_cases hlt:j<ps.length
     · have Cn:(j:Int)<(ps.length:Int):=by omega
       have T:=HR.out.cell hlt
       have hf:=Q.out j hlt
       obtain ⟨m,hm⟩:=nm9 (O j)
       rw [← hm] at T hf
       obtain ⟨p,hp⟩:∃ p,ps[m]? = some p:=⟨_,List.getElem?_eq_getElem hf⟩
       obtain ⟨b,off,rfl,If,y0,y1,y2,y3,y4,y5,y6,y7,y8,y9⟩:=zhv (KR.out.keep (w':=wr) (fun _ hp=>B.out.cell hp)) hp
       have eE:(0:Int)≤(m:Int):=by omega
       have Be:(m:Int)<(ps.length:Int):=by omega
       have jH:=HR.out.lt
       have HM:=Z9 (List.mem_of_getElem? hp)
       have jE:W.heap.size+1≤wr.heap.size:=by omega
       clear hm hp
       go_wp2_with (at_builtin;refine zan (w0:=wr) rfl _ _ 251 rfl (W.heap.size+1) 255 10 112 _ Tryz.underlying251 zdl rfl (by decide) A' j c' _ rfl E.out [.bool p.f.lost, .int .i64 p.f.d, .bool p.f.again, .int .i64 p.f.ad, .int .i64 p.no, .string { data := #[97] }, .string { data := #[98] }, .int .i64 p.sent, .bool p.second, .slice p.A p.zs.length p.c] rfl (by simp [Value.oneCell']) rfl (by unfold maxLen;omega) (by omega) jE ?_;intro A9 c9 v1 w Z Ar)
       have hk:∀ k,ownB A'=some k→W.heap.size+1≤k:=fun k hk=>(E.out.block k hk).1
       refine ⟨⟨j+1,A9,c9,D ++ [p],by omega,by simp,rfl,Z9 ⟨by simp [H.out.1],fun x hx => ?_⟩,Z9 (by simpa [Pc.row] using w),Z9 ?_,Z9 (B.out.grown Z (by omega) (fun k e=>by have:=hk k e;omega))⟩,?_⟩
       · rcases List.mem_append.1 hx with h|h
         · exact H.out.2 x h
         · simp at h;rw [h];exact HM.out
       · obtain ⟨cc,h1,h2,h3⟩:=HR.out
         exact ⟨cc,(Z.block W.heap.size (by omega) (fun e=>by have:=hk _ e.symm;omega)).trans h1,h2,h3⟩
       · simp [intOf];omega
     · obtain rfl:j=ps.length:=by omega
       have hn:¬(ps.length:Int)<(ps.length:Int):=by omega
       go_wp2_with fail
       go_ret
       exact ⟨A',c',D,rfl,H.out.1,H.out.2,E.out.base_mono (Nat.le_succ _),B.out⟩
theorem zuv:(Tryz.prog.info? 213).map (fun i=>(i.zero,i.size,i.bytes))=some (some (.agg #[.int .i64 0, .string { data := #[] }, .string { data := #[] }, .int .i64 0, .slice none 0 0]),5,72):=by kernel_rfl
structure Dg where
 no:Int
 at_:Int
 A:Option Addr
 c:Nat
 zs:List Int
def Dg.row (d:Dg):List Value:=[.int .i64 d.no, .string { data := #[97] }, .string { data := #[98] }, .int .i64 d.at_, .slice d.A d.zs.length d.c]
theorem zbo {b:Nat} (h:Chg T w w') (hb:b∉T) (hc:w.cell? ⟨b,i,none⟩=some v):w'.cell? ⟨b,i,none⟩=some v:=(h.cell (p:=⟨b,i,none⟩) (zcu hc) hb).trans hc
def SortK (due:List Pc) (B:Nat):Prop:=∀ (V:World) (gI g6:Nat) (A1:Option Addr) (c1:Nat) (f:Nat→Nat),B≤gI→gI≠g6→V.cell? ⟨g6,0,none⟩=some (.slice A1 due.length c1)→RowsAv V [gI] 10 Pc.row A1 due→V.rowIs gI 3 due.length (fun j => .int .i64 (f j))→(∀ j,j<due.length→f j<due.length)→Calls Tryz.prog 133 #[.slice (some ⟨gI,0,none⟩) due.length due.length, .func (Fn.func 112) #[] #[.pointer (some ⟨g6,0,none⟩)]] V (SortR due.length gI V)
theorem zwz {due:List Pc} (h:due.length=1) (B:Nat):SortK due B:=by
 intro V A g6 A1 c1 f h1 h2 h3 h4 h5 h6
 rw [h] at h5 h6 ⊢
 refine (zoa _ _ _ V).mono ?_
 rintro e w' ⟨rfl,rfl⟩
 exact ⟨rfl,Chg.refl _ _,f,h5,h6⟩
def dueP (now:Int) (ps:List Pc):List Pc:=ps.filter fun p=>decide (p.at_≤now)
def restP (now:Int) (ps:List Pc):List Pc:=ps.filter fun p => !decide (p.at_≤now)
def RcvR (gc:Nat) (k:Ca) (now:Int) (W:World) (e:Ending) (w':World):Prop:=∃ (A':Option Addr) (c':Nat) (ds:List Dg) (rA:Option Addr) (rc:Nat),e = .returned (.tuple #[.slice A' ds.length c', .int .u8 0])∧ds.length=(dueP now k.ps).length∧(∀ d∈ds,∃ p∈dueP now k.ps,d.zs=p.zs)∧RowsNew W.heap.size w' 5 Dg.row A' ds∧(∀ d∈ds,IntsNew W.heap.size w' .u8 d.A d.zs∧d.zs.length≤d.c)∧Blk w' gc 253 (Ca.row { k with pA:=rA,pc:=rc,ps:=restP now k.ps,now:=now }).toArray∧Owns w' W.heap.size 255 10 rA (restP now k.ps).length rc ((restP now k.ps).flatMap Pc.row)∧Chg [gc] W w'
theorem zuw {zs:List Int} (h:IntsAt w n .u8 A zs):RowsAt w n 1 u8Row A zs:=fun h0=>by
 obtain ⟨b,off,e,hb,hc⟩:=h h0
 refine ⟨b,off,e,hb,fun i a B j v hv => ?_⟩
 obtain rfl:j=0:=by
  have h1:=(List.getElem?_eq_some_iff.1 hv).1
  have h2:(u8Row a).length=1:=rfl
  omega
 have hi:=(List.getElem?_eq_some_iff.1 B).1
 have h3:=hc i hi
 rw [List.getD_eq_getElem?_getD,B] at h3
 rw [Nat.mul_one,Nat.add_zero]
 rw [h3];exact hv
theorem zob:∀ zs:List Int,zs.flatMap u8Row=zs.map (Value.int .u8)
 | []=>rfl
 | z::zs=>by rw [List.flatMap_cons,zob zs];rfl
theorem zbx {o:Oper} {a:Act} {K:Act→World→Prop} {Q:Exit→Act→World→Prop} {E:Prop} (d:Tmp) (H:o.guard=none) (hd:o.dst=some d) (s x:Operand) (t:TypeId)
 (ho:o.op = .call { callee := .builtin .append,args := #[s,x],argTypes := #[t,t] })
 (base:Nat) (e:TypeId) (size bytes:Nat) (z:Value) (ht:P.underlying t=some (.slice e)) (N:(P.info? e).map (fun i=>(i.zero,i.size,i.bytes))=some (some z,size,bytes))
 (I:z.cells.size=size) (O:0<size) (A:Option Addr) (n c:Nat) (xs:List Value) (hs:a.eval s = .slice A n c) (D:Owns w base e size A n c xs)
 (g0:Nat) (cs:List Value) (hl:cs.length=size) (h1:∀ u∈cs,u.oneCell'=true) (hx:a.eval x = .slice (some ⟨g0,0,none⟩) 1 1) (hb:Blk w g0 e cs.toArray)
 (F:n+1≤maxLen) (R:(n+1)*bytes≤140737488355328) (T:base≤w.heap.size)
 (h:∀ (A':Option Addr) (c':Nat) (w':World),Owns w' base e size A' (n+1) c' (xs++cs)→w.grownBy w' (ownB A)→(ownB A'=ownB A∨∀ g,ownB A'=some g→w.heap.size≤g)→K (a.put (some d) (.slice A' (n+1) c')) w') :
 if Region.wanted o (yielded ops a.tmps)=true then Oper.wp P o a w K Q else E:=by
 obtain ⟨i,hi,J,G,M⟩:=info_parts N
 refine step_append_lies w H s x t ho base e i z size bytes ht hi J G M I O _ n xs hs D ⟨g0,0,none⟩ 1 1 cs hx (by omega) ?_ h1 (by omega) F R T _ rfl ?_
 · intro j u hu
   exact World.news_of_block hb j u (by simpa using hu)
 · intro g cap w' L hg C hlt
   rw [zbr] at hg C
   rw [hd]
   refine h _ _ w' L hg ?_
   rcases C with e|e
   · exact .inl e.symm
   · refine .inr fun g' B => ?_
     injection B with B
     rw [← B,e]
     exact Nat.le_refl _
def CloneI (zs:List Int) (W:World) (e:Ending) (w':World):Prop:=∃ A' c',e = .returned (.slice A' zs.length c')∧zs.length≤c'∧IntsNew W.heap.size w' .u8 A' zs∧Below W.heap.size W w'
theorem zga (A:Option Addr) (c:Nat) (zs:List Int) (W:World) (B:IntsAt W W.heap.size .u8 A zs) (h0:0<zs.length) (hl:zs.length≤2000):Calls Tryz.prog 107 #[.slice A zs.length c] W (CloneI zs W):=by
 refine (zly A c zs W (zuw B) (fun C => ?_) hl).mono ?_
 · obtain ⟨b,off,e,_⟩:=B h0
   rw [C] at e;cases e
 · rintro e w' ⟨A',c',rfl,ho,_,hb⟩
   rw [zob] at ho
   exact ⟨A',c',rfl,ho.cap,IntsNew.of_own ho (Nat.le_refl _),hb⟩
theorem zdb {α : Type} {row : α → List Value} {size:Nat} (C:∀ a,(row a).length=size) (D:0<size) {ps:List α} (h:Owns w base e size A n c (ps.flatMap row)) (hn:ps.length=n):RowsNew base w size row A ps:=by
 refine ⟨fun h0 => ?_,fun h0 b off e=>(h.block b (by rw [e];rfl)).1⟩
 obtain ⟨g,e,h1,h2⟩:=h.form (by omega)
 refine ⟨g,0,e,h2,fun i a B j v hv => ?_⟩
 have h3:=World.ownsRow.cells h (g:=g) (by rw [e];rfl) (i*size+j) v ?_
 · rw [zku] at h3
   rw [Nat.add_assoc];exact h3
 · exact zeg (size:=size) C ps i a B j v hv
theorem zkq {ps:List Pc} (h:Owns w base 255 10 A ps.length c (ps.flatMap Pc.row)):RowsNew base w 10 Pc.row A ps:=zdb (row:=Pc.row) (size:=10) (fun _=>rfl) (by decide) h rfl
structure RLoop (W5 wr:World) (A:Option Addr) (c:Nat) (ds:List Dg):Prop where
 own:Owns wr W5.heap.size 213 5 A ds.length c (ds.flatMap Dg.row)
 pay:∀ d∈ds,IntsAv wr (ownB A).toList .u8 d.A d.zs∧(0<d.zs.length→∀ b off,d.A=some ⟨b,off,none⟩→W5.heap.size≤b)∧d.zs.length≤d.c
 bel:Below W5.heap.size W5 wr
theorem RLoop.step {ds:List Dg} {o:Obj} {at_:Int} {zs:List Int} (h:RLoop W5 wr A c ds) (C:Below wr.heap.size wr X) (F:Below X.heap.size X w7) (E:Below w7.heap.size w7 w8) (D:IntsNew w7.heap.size w8 .u8 A8 zs) (hc:zs.length≤c8)
 (ho:Owns wn W5.heap.size 213 5 An (ds.length+1) cn (ds.flatMap Dg.row++Dg.row ⟨no,at_,A8,c8,zs⟩)) (hg:(w8.alloc o).grownBy wn (ownB A)) (N:ownB An=ownB A∨∀ g,ownB An=some g→(w8.alloc o).heap.size≤g):RLoop W5 wn An cn (ds ++ [⟨no,at_,A8,c8,zs⟩]):=by
 have s1:=C.size
 have P:=F.size
 have O:=E.size
 have H:Below wr.heap.size wr w8:=(C.trans (F.mono s1)).trans (E.mono (by omega))
 have G:Below wr.heap.size wr (w8.alloc o):=H.alloc H.size o
 have L:∀ x∈(ownB A).toList,x<wr.heap.size:=fun x hx=>by
  have e:ownB A=some x:=by simpa using hx
  exact (h.own.block x e).2
 have M:Chg (ownB A).toList (w8.alloc o) wn:=Chg.of_grown hg (fun k e => .inl (by rw [e];simp))
 have I:∀ {B:Option Addr} {l:List Int}, IntsAv (w8.alloc o) (ownB A).toList .u8 B l→IntsAv wn (ownB An).toList .u8 B l:=fun {B l} hi=>by
  have h1:=hi.re (T:=(ownB A).toList++(ownB An).toList) (fun x hx=>by
   rcases List.mem_append.1 hx with hx|hx
   · exact .inl hx
   · rcases N with e|e
     · rw [e] at hx;exact .inl hx
     · exact .inr (e x (by simpa using hx)))
  exact (h1.chg M (fun x hx=>List.mem_append_left _ hx)).sub (fun x hx=>List.mem_append_right _ hx)
 refine ⟨by simpa using ho,fun d hd => ?_,?_⟩
 · rcases List.mem_append.1 hd with hd|hd
   · obtain ⟨p1,K,J⟩:=h.pay d hd
     exact ⟨I (p1.chg (T:=[]) (Chg.of_below G) (by simp)),K,J⟩
   · simp at hd
     subst hd
     refine ⟨I ?_,fun h0 b off e => ?_,hc⟩
     · have h1:IntsAv w8 (ownB A).toList .u8 A8 zs:=IntsAv.of_new D (fun x hx=>by have:=L x hx;omega)
       exact h1.chg (T:=[]) (Chg.of_below ((Below.refl _ _).alloc (Nat.le_refl _) _)) (by simp)
     · have:=D.2 h0 b off e
       have:=h.bel.size
       omega
 · have hb:Below W5.heap.size W5 (w8.alloc o):=h.bel.trans (G.mono h.bel.size)
   exact hb.grown hg hb.size (fun g e=>(h.own.block g e).1)
theorem zoc (gc base:Nat) (k:Ca) (now:Int) (W:World) (hB:Blk W gc 253 k.row.toArray) (hR:RowsAv W [gc] 10 Pc.row k.pA k.ps) (ok:∀ p∈k.ps,p.ok) (hl:k.ps.length≤1000) (y:∀ p∈k.ps,IntsAv W [gc] .u8 p.A p.zs∧0<p.zs.length∧p.zs.length≤2000) (h0:k.now≤now) (h1:now≤1000000) (hd:0<(dueP now k.ps).length) (kS:SortK (dueP now k.ps) W.heap.size):Calls Tryz.prog 77 #[.pointer (some ⟨gc,0,none⟩), .int .i64 now] W (RcvR gc k now W):=by
 have c0:=hB.at 0 (.bool true) rfl
 have c2:=hB.at 2 (.slice k.pA k.ps.length k.pc) rfl
 have c5:=hB.at 5 (.int .i64 k.now) rfl
 have hg:=hB.lt
 have kz:=Z9 fun (V:World) h=>zdj gc V h
 have eH:¬now<k.now:=by omega
 have Cx:¬1099511627776<now:=by omega
 have eG:decide (now<k.now)=false:=decide_eq_false eH
 have yT:decide (1099511627776<now)=false:=decide_eq_false Cx
 obtain ⟨W1,g⟩:=nm9 (W.alloc (.cells #[.int .i64 now] 3))
 obtain ⟨g3,Cb⟩:=nm9 W.heap.size
 have K:Below W.heap.size W W1:=by rw [g];exact (Below.refl _ _).alloc (Nat.le_refl _) _
 have b3:Blk W1 g3 3 #[.int .i64 now]:=by rw [g,Cb];exact Blk.new W _ _
 have N:=b3.at 0 (.int .i64 now) rfl
 replace c0:=(K.cell (p:=⟨gc,0,none⟩) hg).trans c0
 replace c2:=(K.cell (p:=⟨gc,2,none⟩) hg).trans c2
 replace c5:=(K.cell (p:=⟨gc,5,none⟩) hg).trans c5
 have eU:g3<W1.heap.size:=b3.lt
 have kd:=Z9 fun (V:World) h1 h2 h3=>zvb k.pA k.pc g3 now k.ps V h1 ok hl h2 h3
 have Qn:RowsAt W1 W1.heap.size 10 Pc.row k.pA k.ps:=(hR.1.keep (fun _ hp=>K.cell hp)).more K.size
 have bX:=Z9 Qn
 clear Qn
 have P:=Z9 K
 have Nh:=Z9 b3
 have HB:=Z9 hB
 have HR:=Z9 hR
 have HI:=Z9 y
 have KS:=Z9 kS
 clear K b3 hB hR y kS
 go_enter Tryz.func77,Tryz.ntmps77
 go_upto_region 1 with fail
 rw [← g,← Cb]
 have Tt:=Z9 g
 have UJ:=Z9 Cb
 clear g Cb
 go_wp2_with fail
 refine (kz.out _ c0).mono ?_
 rintro e w0 ⟨rfl,rfl⟩
 go_upto_region 3 with fail
 go_region
 go_wp2_with fail
 refine (kd.out (World.drew w0) bX.out N eU).mono ?_
 rintro e w2 ⟨A1,ca,A2,L,n1,n2,rfl,Jq,Pb,D⟩
 subst Jq Pb
 have U2:Below W.heap.size W w2:=P.out.trans (show Below W.heap.size w0 w2 from ⟨D.bel.os,D.bel.tape,D.bel.output,D.bel.size,fun k hk=>D.bel.block k (Nat.lt_of_lt_of_le hk P.out.size)⟩)
 have Fo:=zkq D.own1
 have U:=Z9 D
 have w:0<(dueP now k.ps).length:=hd
 obtain ⟨due,H⟩:=nm9 (dueP now k.ps)
 obtain ⟨rest,Y⟩:=nm9 (restP now k.ps)
 change _=List.filter _ _ at H
 change _=List.filter _ _ at Y
 rw [← H,← Y] at U
 rw [← H] at Fo
 rw [← H,← Y]
 change 0<(List.filter _ _).length at w
 rw [← H] at w
 have eK:due.length≤1000:=by rw [H];exact Nat.le_trans (List.length_filter_le _ _) hl
 have VS:w2.cell? ⟨g3,0,none⟩=some (.int .i64 now):=(U.out.bel.cell (p:=⟨g3,0,none⟩) eU).trans N
 have zW:g3<w2.heap.size:=Nat.lt_of_lt_of_le eU U.out.bel.size
 have SE:Hid (SortK due W.heap.size):=by have:=KS.out;unfold dueP at this;rw [← H] at this;exact Z9 this
 have uT:=(U2.cell (p:=⟨gc,2,none⟩) hg).trans (HB.out.at 2 _ rfl)
 have EK:=(U2.cell (p:=⟨gc,5,none⟩) hg).trans (HB.out.at 5 _ rfl)
 have GG:=Z9 H
 have SZ:=Z9 Y
 have R:=Z9 U2
 have Rb:=Z9 Fo
 clear D U2 Fo H Y KS kd c0 c2 c5 Nh bX N
 obtain ⟨W3,Js⟩:=nm9 (w2.alloc (.cells #[.slice A1 due.length ca] 251))
 obtain ⟨g6,t⟩:=nm9 w2.heap.size
 have I:Below w2.heap.size w2 W3:=by rw [Js];exact (Below.refl _ _).alloc (Nat.le_refl _) _
 have Q:Blk W3 g6 251 #[.slice A1 due.length ca]:=by rw [Js,t];exact Blk.new w2 _ _
 have l:=Q.at 0 (.slice A1 due.length ca) rfl
 have zT:g6<W3.heap.size:=Q.lt
 have Up:RowsNew W.heap.size W3 10 Pc.row A1 due:=⟨(Rb.out.later I).1,fun h0 b off e=>Nat.le_trans P.out.size ((Rb.out.later I).2 h0 b off e)⟩
 have oT:gc<w2.heap.size:=Nat.lt_of_lt_of_le hg R.out.size
 have hwg:W.heap.size≤g6:=by rw [t];exact R.out.size
 have ko:=zuu A1 ca due (.func (Fn.func 112) #[] #[.pointer (some ⟨g6,0,none⟩)]) W3 Up.1 eK w (fun V gI f h1 h2 h3 h4=>SE.out V gI g6 A1 ca f (by omega) (by omega) ((h2.cell (p:=⟨g6,0,none⟩) zT).trans l) ⟨(Up.1.keep (fun _ hp=>h2.cell hp)).more h2.size,fun h0 b off e hx=>by
  obtain ⟨b',Bx,z,Zo,_⟩:=Up.1 h0
  rw [e] at z;injection z with z;injection z with e1 _
  simp at hx;omega⟩ h3 h4)
 replace uT:W3.cell? ⟨gc,2,none⟩=some (.slice k.pA k.ps.length k.pc):=(I.cell (p:=⟨gc,2,none⟩) oT).trans uT
 replace EK:W3.cell? ⟨gc,5,none⟩=some (.int .i64 k.now):=(I.cell (p:=⟨gc,5,none⟩) oT).trans EK
 have vT:W3.cell? ⟨g3,0,none⟩=some (.int .i64 now):=(I.cell (p:=⟨g3,0,none⟩) zW).trans VS
 have TZ:=Z9 ko
 have Ot:=Z9 I
 have VD:=Z9 Q
 have qU:=Z9 Js
 have Ji:Owns w2 W.heap.size 255 10 A2 rest.length L (rest.flatMap Pc.row):=U.out.own2.base_mono P.out.size
 have Qq:=Z9 (Ji.later9 I)
 have pQ:∀ q,ownB A2=some q→q<g6:=fun q hq=>by have:=(Ji.block q hq).2;omega
 have rE:=Z9 pQ
 clear Ji pQ U
 have FY:=Z9 t
 have eC:¬gc=g6:=by omega
 clear ko I Q Up SE Rb Js t
 go_upto_region 6 with fail
 rw [← qU.out,← FY.out]
 clear qU
 go_wp2_with fail
 refine TZ.out.mono ?_
 rintro e w4 ⟨A3,c3,ps3,rfl,T,Fd,Kn,Z⟩
 have U4:Below W.heap.size W w4:=R.out.trans ((Ot.out.trans (Z.mono Ot.out.size)).mono R.out.size)
 have J:Blk w4 gc 253 k.row.toArray:=HB.out.later U4
 have O:Blk w4 g6 251 #[.slice A1 due.length ca]:=VD.out.later Z
 have x6:=O.at 0 (.slice A1 due.length ca) rfl
 have x2:=J.at 2 (.slice k.pA k.ps.length k.pc) rfl
 have x5:=J.at 5 (.int .i64 k.now) rfl
 have x3:w4.cell? ⟨g3,0,none⟩=some (.int .i64 now):=(Z.cell (p:=⟨g3,0,none⟩) (zcu vT)).trans vT
 have f6:=O.frozen 0
 have f2:=J.frozen 2
 have f5:=J.frozen 5
 have Wv:¬g3=g6:=by have:=FY.out;omega
 have nU:¬g3=gc:=by have:=UJ.out;omega
 have iN:=Z9 (Qq.out.later9 Z)
 have rD:=Z9 Kn
 have TJ:=Z9 Fd
 have lA:=Z9 U4
 have VC:=Z9 J
 have rW:=Z9 O
 have m6:=O.lt
 have Xg:=J.lt
 clear Kn Fd U4 J O Qq TZ Z l uT EK vT VD
 go_upto_region 10 with fail
 obtain ⟨Va,n⟩:=nm9 (w4.setCell ⟨g6,0,none⟩ (.slice A3 due.length c3))
 have oa:OnlyB g6 w4 Va:=by rw [n];exact OnlyB.setCell _ _ _ _
 have RU:Blk Va g6 251 #[.slice A3 due.length c3]:=by rw [n];exact rW.out.set_ 0 _
 rw [← n]
 clear n
 have RT:=oa.blk VC.out eC
 obtain ⟨Vb,o⟩:=nm9 (Va.setCell ⟨gc,2,none⟩ (.slice A2 rest.length L))
 have ob:OnlyB gc Va Vb:=by rw [o];exact OnlyB.setCell _ _ _ _
 have RO:Blk Vb gc 253 (Ca.row { k with pA:=A2,pc:=L,ps:=rest }).toArray:=by rw [o];exact RT.set_ 2 _
 rw [← o]
 clear o
 have RQ:=ob.blk RU (fun e=>eC e.symm)
 obtain ⟨W5,Uo⟩:=nm9 (Vb.setCell ⟨gc,5,none⟩ (.int .i64 now))
 have oc:OnlyB gc Vb W5:=by rw [Uo];exact OnlyB.setCell _ _ _ _
 have RL:Blk W5 gc 253 (Ca.row { k with pA:=A2,pc:=L,ps:=rest,now:=now }).toArray:=by rw [Uo];exact RO.set_ 5 _
 rw [← Uo]
 clear Uo
 have RM:=oc.blk RQ (fun e=>eC e.symm)
 have z6:=RM.at 0 (.slice A3 due.length c3) rfl
 have G:Chg [gc,g6] w4 W5:=(Chg.of_only oa (by simp)).trans ((Chg.of_only ob (by simp)).trans (Chg.of_only oc (by simp)))
 have GR:Chg [gc] W W5:=by
  have h1:Chg [gc] W w4:=Chg.of_below lA.out
  refine ⟨G.os.trans h1.os,G.tape.trans h1.tape,G.output.trans h1.output,Nat.le_trans h1.size G.size,fun q hq hn => ?_⟩
  have YW:=Nat.lt_of_lt_of_le hq h1.size
  refine (G.block q YW (fun hx => ?_)).trans (h1.block q hq hn)
  simp at hx hn
  omega
 have PK:Owns W5 W.heap.size 255 10 A2 rest.length L (rest.flatMap Pc.row):=G.owns iN.out (fun q hq hx=>by
  have h1:=(iN.out.block q hq).1
  simp at hx
  rcases hx with e|e
  · omega
  · have h2:=rE.out q hq
    omega)
 have PG:RowsAt W5 W5.heap.size 10 Pc.row A3 ps3:=by
  have h1:=zkq (ps:=ps3) (by rw [T];exact rD.out)
  intro h0
  obtain ⟨b,off,e,Zo,hc⟩:=h1.1 h0
  have h2:=h1.2 h0 b off e
  exact ⟨b,off,e,Nat.lt_of_lt_of_le Zo G.size,fun q a ha j v hv=>(G.cell (p:=⟨b,off+q*10+j,none⟩) Zo (by simp;omega)).trans (hc q a ha j v hv)⟩
 have QD:∀ p∈ps3,IntsAt W5 W5.heap.size .u8 p.A p.zs∧0<p.zs.length∧p.zs.length≤2000∧p.ok∧p∈due:=fun p hp=>by
  have Ud:=TJ.out p hp
  have Uc:p∈k.ps:=by have:=GG.out;rw [this] at Ud;exact (List.mem_filter.1 Ud).1
  obtain ⟨h1,h2,h3⟩:=HI.out p Uc
  exact ⟨(h1.chg GR (fun x hx=>hx)).1,h2,h3,ok p Uc,Ud⟩
 have lH:=Z9 GR
 have rT:=Z9 RL
 have TN:=Z9 PK
 have rC:=Z9 PG
 have Y4:=Z9 QD
 clear oa ob oc RU RT RO RQ RL RM G GR PK PG QD x6 x2 x5 x3 f6 f2 f5
 have ka:=Z9 fun (p:Pc) hp (V:World)=>zde p hp V
 unfold Pc.row at ka
 have aY:ps3.length≤1000:=by rw [T];exact eK
 clear HB HR HI Tt UJ P eH Cx eG yT hd h1 w eK R Ot iN rD TJ lA VC rW rE FY kz h0
 rw [← T] at z6 ⊢
 have FU:=Z9 T
 clear T
 go_wp2_with fail
 go_loopw [8,45] (fun s8 i wr => ∃ (j:Nat) (A':Option Addr) (c':Nat) (ds:List Dg),j≤ps3.length∧i = .int .i64 j∧s8 = .slice A' j c'∧Hid (ds.length=j∧∀ d∈ds,∃ p∈due,d.zs=p.zs)∧Hid (RLoop W5 wr A' c' ds)) (fun _ i _=>ps3.length-(intOf i).toNat)
 case atStart=>exact ⟨0,none,0,[],Nat.zero_le _,rfl,rfl,Z9 ⟨rfl,fun d hd=>by cases hd⟩,Z9 ⟨Owns.nil,(fun d hd=>by cases hd),Below.refl _ _⟩⟩
 case round =>
  obtain ⟨j,A',c',ds,hj,rfl,rfl,m,B⟩:=hrel
  have Ct:(0:Int)≤(j:Int):=by omega
  by_cases hlt:j<ps3.length
  rotate_left
  · obtain rfl:j=ps3.length:=by omega
    have hn:¬(ps3.length:Int)<(ps3.length:Int):=by omega
    go_wp2_with fail
    go_ret2
    have hds:=m.out.1
    have aU:=zdb (row:=Dg.row) (size:=5) (fun _=>rfl) (by decide) B.out.own rfl
    have Cj:=lH.out.size
    have Oz:restP now k.ps=rest:=SZ.out.symm
    have Ok:dueP now k.ps=due:=GG.out.symm
    refine ⟨A',c',ds,A2,L,by rw [hds];rfl,by rw [hds,FU.out,Ok],by rw [Ok];exact m.out.2,⟨aU.1,fun h0 b off e=>Nat.le_trans Cj (aU.2 h0 b off e)⟩,fun d hd => ?_,by rw [Oz];exact rT.out.later B.out.bel,by rw [Oz];exact TN.out.later9 B.out.bel,lH.out.trans (Chg.of_below B.out.bel)⟩
    obtain ⟨p1,p2,p3⟩:=B.out.pay d hd
    exact ⟨⟨p1.1,fun h0 b off e=>Nat.le_trans Cj (p2 h0 b off e)⟩,p3⟩
  have Cn:(j:Int)<(ps3.length:Int):=by omega
  obtain ⟨p,hp⟩:∃ p,ps3[j]? = some p:=⟨_,List.getElem?_eq_getElem hlt⟩
  obtain ⟨q1,q2,q3,q4,q5⟩:=Y4.out p (List.mem_of_getElem? hp)
  obtain ⟨b,off,rfl,If,y0,y1,y2,N,y4,y5,l,y7,y8,y9⟩:=zhv (rC.out.keep (w':=wr) (fun _ hp=>B.out.bel.cell hp)) hp
  have AV:b<wr.heap.size:=Nat.lt_of_lt_of_le If B.out.bel.size
  have Oa:IntsAt wr wr.heap.size .u8 p.A p.zs:=(q1.keep (fun _ hp=>B.out.bel.cell hp)).more B.out.bel.size
  have Uv:=Z9 Oa
  have R8:=Z9 q5
  clear hp q1 q5 Oa
  go_upto_region 13 with fail
  obtain ⟨X,u⟩:=nm9 (wr.alloc (.cells #[.bool p.f.lost, .int .i64 p.f.d, .bool p.f.again, .int .i64 p.f.ad, .int .i64 p.no, .string { data := #[97] }, .string { data := #[98] }, .int .i64 p.sent, .bool p.second, .slice p.A p.zs.length p.c] 255))
  obtain ⟨hb,hh⟩:=nm9 wr.heap.size
  have C:=Blk.new wr 255 #[.bool p.f.lost, .int .i64 p.f.d, .bool p.f.again, .int .i64 p.f.ad, .int .i64 p.no, .string { data := #[97] }, .string { data := #[98] }, .int .i64 p.sent, .bool p.second, .slice p.A p.zs.length p.c]
  have M:Below wr.heap.size wr X:=by rw [u];exact (Below.refl wr.heap.size wr).alloc (Nat.le_refl _) _
  rw [← u,← hh] at C
  rw [← u,← hh]
  have v0:=C.at 0 (.bool p.f.lost) rfl
  have v1:=C.at 1 (.int .i64 p.f.d) rfl
  have v2:=C.at 2 (.bool p.f.again) rfl
  have v3:=C.at 3 (.int .i64 p.f.ad) rfl
  have v4:=C.at 4 (.int .i64 p.no) rfl
  have v5:=C.at 5 (.string { data := #[97] }) rfl
  have v6:=C.at 6 (.string { data := #[98] }) rfl
  have v7:=C.at 7 (.int .i64 p.sent) rfl
  have v8:=C.at 8 (.bool p.second) rfl
  have v9:=C.at 9 (.slice p.A p.zs.length p.c) rfl
  have E:hb∉(ownB A').toList:=fun hx=>by
   have e:ownB A'=some hb:=by simpa using hx
   have:=(B.out.own.block hb e).2
   omega
  have X8:Hid (IntsAt X X.heap.size .u8 p.A p.zs):=Z9 ((Uv.out.keep (fun _ hp=>M.cell hp)).more M.size)
  have vD:Hid (Owns X W5.heap.size 213 5 A' ds.length c' (ds.flatMap Dg.row)):=Z9 (B.out.own.later9 M)
  have Oq:=Z9 M
  have hds:ds.length=j:=m.out.1
  have jN:j+1≤maxLen:=by unfold maxLen;omega
  have Tj:(j+1)*72≤140737488355328:=by omega
  have xD:W5.heap.size≤X.heap.size:=Nat.le_trans B.out.bel.size M.size
  have XN:=Z9 fun (V:World) y=>zga p.A p.c p.zs V y q2 q3
  have iS:=Z9 hds
  clear u hh M C y0 y1 y2 N y4 y5 l y7 y8 y9 z6 lH rT TN GG SZ hds
  go_region_held3 (fun w'=>Chg (ownB A').toList X w'∧w'.cell? ⟨hb,0,none⟩=some (.bool p.f.lost)∧w'.cell? ⟨hb,1,none⟩=some (.int .i64 p.f.d)∧w'.cell? ⟨hb,2,none⟩=some (.bool p.f.again)∧w'.cell? ⟨hb,3,none⟩=some (.int .i64 p.f.ad)∧w'.cell? ⟨hb,4,none⟩=some (.int .i64 p.no)∧w'.cell? ⟨hb,5,none⟩=some (.string { data := #[97] })∧w'.cell? ⟨hb,6,none⟩=some (.string { data := #[98] })∧w'.cell? ⟨hb,7,none⟩=some (.int .i64 p.sent)∧w'.cell? ⟨hb,8,none⟩=some (.bool p.second)∧w'.cell? ⟨hb,9,none⟩=some (.slice p.A p.zs.length p.c))
   (first|assumption|((try go_split_ands);refine zcv ?_ (fun F=>⟨zbo F E v0,zbo F E v1,zbo F E v2,zbo F E v3,zbo F E v4,zbo F E v5,zbo F E v6,zbo F E v7,zbo F E v8,zbo F E v9⟩);(with_reducible repeat first|assumption|exact Chg.refl _ _|refine Chg.drew ?_|refine Chg.push ?_ _)))
   (first
    | (go_at_call 108;refine (ka.out p q4 _).mono ?_;rintro e w7 ⟨rfl,qb⟩;have Ew:Below X.heap.size X w7:=zak qb (by (try go_split_ands);first|assumption|exact Below.drew (Below.refl _ _));have Ul:Chg (ownB A').toList X w7:=Chg.of_below Ew)
    | (go_at_call 107;refine (XN.out w7 ((X8.out.keep (fun _ hp=>Ew.cell hp)).more Ew.size)).mono ?_;rintro e w8 ⟨A8,c8,rfl,tY,CW,bN⟩;have Rs:Below X.heap.size X w8:=zak bN Ew;have AL:Chg (ownB A').toList X w8:=Chg.of_below Rs)
    | ((refine zbx 63 (by rfl) (by rfl) _ _ 208 (by rfl) W5.heap.size 213 5 72 _ Tryz.underlying208 zuv rfl (by decide) A' j c' (ds.flatMap Dg.row) (by rfl) (Owns.alloc (by have h9:=vD.out;rw [iS.out] at h9;exact h9.later9 Rs) _) w8.heap.size [.int .i64 p.no, .string { data := #[97] }, .string { data := #[98] }, .int .i64 p.at_, .slice A8 p.zs.length c8] rfl (by simp [Value.oneCell']) (by rfl) (Blk.new w8 _ _) jN Tj (by have:=Rs.size;simp;omega) ?_);intro An cn wn qo Bh Ar;have n7:Chg (ownB A').toList X wn:=Chg.trans (Chg.push AL _) (Chg.of_grown Bh (fun k e=>Or.inl (by rw [e];simp)))))
  all_goals
   go_wp2_with fail
   refine ⟨⟨j+1,An,cn,ds ++ [⟨p.no,p.at_,A8,c8,p.zs⟩],by omega,by simp,rfl,Z9 ⟨by simp [iS.out],fun d hd => ?_⟩,Z9 ?_⟩,?_⟩
   · rcases List.mem_append.1 hd with hd|hd
     · exact m.out.2 d hd
     · simp at hd;subst hd;exact ⟨p,R8.out,rfl⟩
   · exact B.out.step Oq.out (by assumption) bN CW tY (by rw [iS.out];exact qo) Bh Ar
   · simp [intOf];omega
structure CaM (W:World) (S:List Nat) (base gc:Nat) (k:Ca):Prop where
 blk:Blk W gc 253 k.row.toArray
 own:Owns W base 255 10 k.pA k.ps.length k.pc (k.ps.flatMap Pc.row)
 ne:ownB k.pA≠some gc
 gcS:gc∈S
 pS:∀ g,ownB k.pA=some g→g∈S
 fts:RowsAv W S 4 Ft.row k.fA k.fs
 pay:∀ p∈k.ps,IntsAv W S .u8 p.A p.zs∧0<p.zs.length∧p.zs.length≤2000
 ok:∀ p∈k.ps,p.ok
 fok:∀ f∈k.fs,f.ok
 lt:∀ x∈S,x<W.heap.size
structure Mv (T S:List Nat) (W:World) (S':List Nat) (W':World):Prop where
 sub:∀ x∈S,x∈S'
 new:∀ x∈S',x∈S∨W.heap.size≤x
 chg:Chg T W W'
 ts:∀ x∈T,x∈S
 lt:∀ x∈S',x∈S∨x<W'.heap.size
section
variable {T S S' uV:List Nat} {W W' W'':World}
theorem Mv.ints {k:IntKind} {zs:List Int} (m:Mv T S W S' W') (h:IntsAv W S k A zs):IntsAv W' S' k A zs:=(h.re m.new).chg m.chg (fun x hx=>m.sub x (m.ts x hx))
theorem Mv.rows {α : Type} {size:Nat} {row : α → List Value} {l:List α} (m:Mv T S W S' W') (h:RowsAv W S size row A l):RowsAv W' S' size row A l:=(h.re m.new).chg m.chg (fun x hx=>m.sub x (m.ts x hx))
theorem Mv.q (m:Mv T S W S' W') (h:QAv W S A l):QAv W' S' A l:=(h.re m.new).chg m.chg (fun x hx=>m.sub x (m.ts x hx))
theorem Mv.add (hb:Below W.heap.size W W') (h1:W.heap.size≤g) (h2:g<W'.heap.size):Mv [] S W (g::S) W' :=
 ⟨fun _ h=>List.mem_cons_of_mem _ h,fun x h=>(List.mem_cons.1 h).elim (fun e => .inr (e ▸ h1)) .inl,Chg.of_below hb,by simp,fun x h=>(List.mem_cons.1 h).elim (fun e => .inr (e ▸ h2)) .inl⟩
theorem Mv.trans (m:Mv T S W S' W') (m2:Mv T' S' W' uV W'') (ht:∀ x∈T',x∈T∨W.heap.size≤x):Mv T S W uV W'' :=
 ⟨fun x h=>m2.sub x (m.sub x h),fun x h=>(m2.new x h).elim (m.new x) (fun h => .inr (Nat.le_trans m.chg.size h)),
  ⟨m2.chg.os.trans m.chg.os,m2.chg.tape.trans m.chg.tape,m2.chg.output.trans m.chg.output,Nat.le_trans m.chg.size m2.chg.size,fun q hq hn=>(m2.chg.block q (Nat.lt_of_lt_of_le hq m.chg.size) (fun hx=>(ht q hx).elim hn (fun h=>by omega))).trans (m.chg.block q hq hn)⟩,
  m.ts,fun x h=>(m2.lt x h).elim (fun h=>(m.lt x h).elim .inl (fun h => .inr (Nat.lt_of_lt_of_le h m2.chg.size))) .inr⟩
theorem Mv.weak (m:Mv [] S W S' W') (h:∀ x∈T',x∈S):Mv T' S W S' W':=⟨m.sub,m.new,m.chg.more (by simp),h,m.lt⟩
theorem Mv.refl (T S:List Nat) (W:World) (h:∀ x∈T,x∈S):Mv T S W S W:=⟨fun _ h=>h,fun _ h => .inl h,Chg.refl _ _,h,fun _ h => .inl h⟩
theorem Mv.below (hb:Below W.heap.size W W'):Mv [] S W S W':=⟨fun _ h=>h,fun _ h => .inl h,Chg.of_below hb,by simp,fun _ h => .inl h⟩
theorem Mv.of_chg (h:Chg T W W') (ht:∀ x∈T,x∈S):Mv T S W S W':=⟨fun _ h=>h,fun _ h => .inl h,h,ht,fun _ h => .inl h⟩
theorem CaM.mv {k:Ca} (h:CaM W S base gc k) (m:Mv T S W S' W') (h1:gc∉T) (h2:∀ g,ownB k.pA=some g→g∉T):CaM W' S' base gc k :=
 ⟨m.chg.blk h.blk h1,m.chg.owns h.own h2,h.ne,m.sub _ h.gcS,fun g hg=>m.sub _ (h.pS g hg),m.rows h.fts,fun p hp=>⟨m.ints (h.pay p hp).1,(h.pay p hp).2⟩,h.ok,h.fok,fun x hx=>(m.lt x hx).elim (fun h1=>Nat.lt_of_lt_of_le (h.lt x h1) m.chg.size) id⟩
end
def sumB (fs:List (List Int)) (RH i m:Nat):Int:=Sb.sumA (fs.take m) i-if RH<m then (fs.getD RH []).getD i 0 else 0
end
section
open Go.RowKit
theorem zei:(Tryz.prog.info? 5).map (fun i=>(i.zero,i.size,i.bytes))=some (some (.int .u8 0),1,1):=by kernel_rfl
def pu8s (l:List Int):List Value:=l.map (Value.int .u8)
theorem zod (a b:List Int):pu8s (a++b)=pu8s a++pu8s b:=List.map_append
theorem zhr (r:Nat):(2:Int) ^ (8*r)=256 ^ r:=by
 rw [Int.pow_mul];rfl
theorem zux {a:List Int} (h:Owns w base e 1 A (a.length+1) c (pu8s a ++ [.int .u8 b])):Owns w base e 1 A (a ++ [b]).length c (pu8s (a ++ [b])):=by
 rw [List.length_append,zod]
 exact h
def val (l:List Int):Int:=l.foldl (fun n b=>256*n+b) 0
theorem zgr (l:List Int) (b:Int):val (l ++ [b])=256*val l+b:=by
 unfold val
 rw [List.foldl_append];rfl
theorem zoe:∀ (n:Nat) (l:List Int),l.length=n→Within 0 255 l→0≤val l∧val l<256 ^ n
 | 0, l, h, _ => by
   obtain rfl:=List.eq_nil_of_length_eq_zero h
   decide
 | n + 1, l, h, hb => by
   obtain ⟨a,b,rfl⟩:∃ a b,l=a ++ [b]:=⟨l.dropLast,l.getLast (by intro e;rw [e] at h;simp at h),(List.dropLast_concat_getLast _).symm⟩
   have A:a.length=n:=by simpa using h
   have h1:=zoe n a A (fun z hz=>hb z (List.mem_append_left _ hz))
   have h2:=hb b (List.mem_append_right _ (List.mem_singleton.2 rfl))
   rw [zgr,Int.pow_succ]
   omega
theorem ztx:∀ (n:Nat) (x:Int),val (be n x)=x % 256 ^ n
 | 0,x=>by simp [be,val]
 | n + 1, x => by
   unfold be
   rw [zgr,ztx n,Int.pow_succ]
   have hp:(0:Int)<256 ^ n:=Int.pow_pos (by omega)
   have h1:=Int.emod_add_mul_ediv (x / 256) (256 ^ n)
   have h2:=Int.emod_nonneg (x / 256) (b:=256 ^ n) (by omega)
   have h3:=Int.emod_lt_of_pos (x / 256) hp
   have hx:x=(256*(x / 256 % 256 ^ n)+x % 256)+256 ^ n*256*(x / 256 / 256 ^ n):=by
    have e:256 ^ n*256*(x / 256 / 256 ^ n)=256*(256 ^ n*(x / 256 / 256 ^ n)):=by
     rw [Int.mul_comm (256 ^ n) 256,Int.mul_assoc]
    rw [e]
    omega
   generalize x / 256 % 256 ^ n=q at *
   generalize x / 256 / 256 ^ n=m at *
   have hr:0≤x % 256∧x % 256<256:=by omega
   generalize x % 256=r at *
   rw [hx,Int.add_mul_emod_self_left,Int.emod_eq_of_lt (by omega) (by omega)]
def fld (bs:List Int) (i k:Nat):Int:=val ((bs.drop i).take k)
theorem zty:∀ (n:Nat) (y m:Int),be n (y+256 ^ n*m)=be n y
 | 0,_,_=>rfl
 | n + 1, y, m => by
   unfold be
   have h:y+256 ^ (n+1)*m=y+256*(256 ^ n*m):=by rw [Int.pow_succ,← Int.mul_assoc,Int.mul_comm 256 (256 ^ n)]
   rw [h,Int.add_mul_ediv_left _ _ (by omega),zty n,Int.add_mul_emod_self_left]
theorem zkr (bs:List Int) (k:Nat) (h:k<bs.length):val (bs.take (k+1))=256*val (bs.take k)+bs.getD k 0:=by
 rw [List.take_succ_eq_append_getElem h,zgr,List.getD_eq_getElem?_getD,List.getElem?_eq_getElem h];rfl
theorem zri (bs:List Int) (p k:Nat) (h:p+k<bs.length):fld bs p (k+1)=256*fld bs p k+bs.getD (p+k) 0:=by
 unfold fld
 have hk:k<(bs.drop p).length:=by simp;omega
 rw [zkr _ _ hk]
 congr 1
 simp [List.getD_eq_getElem?_getD]
theorem zdc (bs:List Int) (p k:Nat) (hb:Within 0 255 bs) (h:p+k≤bs.length):0≤fld bs p k∧fld bs p k<256 ^ k:=by
 unfold fld
 exact zoe k _ (by simp;omega) ((hb.drop p).take k)
theorem zof (bs:List Int) (p k:Nat) (hb:Within 0 255 bs) (h:p+k≤bs.length) (hk:k<8):0≤fld bs p k∧fld bs p k≤72057594037927935:=by
 obtain ⟨h1,h2⟩:=zdc bs p k hb h
 have h3:(256:Int) ^ k≤72057594037927936:=by
  have:∀ i:Fin 8,(256:Int) ^ i.val≤72057594037927936:=by decide
  exact this ⟨k,hk⟩
 omega
theorem zuy (a b c:List Int) (i k:Nat) (h:a.length=i) (hb:b.length=k):fld (a++(b++c)) i k=val b:=by
 subst h hb
 unfold fld
 rw [List.drop_left,List.take_left]
theorem zbm (a c:List Int) (i k:Nat) (x:Int) (h:a.length=i):fld (a++(be k x++c)) i k=x % 256 ^ k:=by
 rw [zuy a (be k x) c i k h (zap k x),ztx]
theorem zgs {xs:List Value} (h:Owns w base e 1 A n c xs) (hb:Blk w g t cs) (ht:t≠e):some g≠ownB A:=by
 intro he
 rcases h.2 with ⟨hv,_⟩|⟨g',cap,cur,hv,_,B,_⟩
 · injection hv with C _ _
   subst C
   cases he
 · injection hv with C _ _
   subst C
   injection he with he
   subst he
   unfold Blk at hb
   rw [hb] at B
   injection B with B
   injection B with _ B
   exact ht B
theorem IntsAt.sub {k:IntKind} {b:Nat} {zs:List Int} (h:IntsAt w B k (some ⟨b,off,none⟩) zs) (i m:Nat) (hi:i+m≤zs.length):IntsAt w B k (some ⟨b,off+i,none⟩) ((zs.drop i).take m):=fun h0=>by
 have hm:0<m:=by simp at h0;omega
 obtain ⟨F,G,e,hb,hc⟩:=h (by omega)
 injection e with e
 injection e with E D
 subst E D
 refine ⟨b,off+i,rfl,hb,fun j C => ?_⟩
 have A:j<m:=by simp at C;omega
 rw [Nat.add_assoc,hc (i+j) (by omega)]
 simp [List.getD_eq_getElem?_getD,A]
end
section
attribute [local go_sem ↓] zab zac
attribute [local go_sem] zaa zad
open Go.RowKit
theorem zev {k:IntKind} {a:Int} (h:a=b):Ending.returned (.int k a) = .returned (.int k b):=by rw [h]
theorem zcw (x:Int) (h0 : -9223372036854775808≤x) (h1:x≤9223372036854775807):IntKind.i64.wrap x=x:=by
 by_cases h:0≤x
 · have e:x % 2 ^ 64=x:=Int.emod_eq_of_lt h (by omega)
   simp only [IntKind.wrap,IntKind.bits,IntKind.signed,e]
   rw [if_neg (by simp;omega)]
 · have e:x % 2 ^ 64=x+2 ^ 64:=by omega
   simp only [IntKind.wrap,IntKind.bits,IntKind.signed,e]
   rw [if_pos (by simp;omega)]
   omega
theorem zks (n:Int):IntKind.u16.wrap n=n % 65536:=by simp [IntKind.wrap,IntKind.bits,IntKind.signed]
theorem zgb (z:Int):bits BinOp.and IntKind.i64 z 65535=z % 65536:=by
 show IntKind.i64.wrap (((BitVec.ofInt 64 z &&& BitVec.ofInt 64 65535).toNat:Nat):Int)=_
 have e:(BitVec.ofInt 64 65535).toNat=2 ^ 16-1:=by decide
 rw [BitVec.toNat_and,e,Nat.and_two_pow_sub_one_eq_mod,BitVec.toNat_ofInt]
 have h:(((z % (2 ^ 64:Nat)).toNat % 2 ^ 16:Nat):Int)=z % 65536:=by omega
 rw [h,zcw _ (by omega) (by omega)]
theorem zls (z:Int):bits BinOp.and IntKind.i64 z 4294967295=z % 4294967296:=by
 show IntKind.i64.wrap (((BitVec.ofInt 64 z &&& BitVec.ofInt 64 4294967295).toNat:Nat):Int)=_
 have e:(BitVec.ofInt 64 4294967295).toNat=2 ^ 32-1:=by decide
 rw [BitVec.toNat_and,e,Nat.and_two_pow_sub_one_eq_mod,BitVec.toNat_ofInt]
 have h:(((z % (2 ^ 64:Nat)).toNat % 2 ^ 32:Nat):Int)=z % 4294967296:=by omega
 rw [h,zcw _ (by omega) (by omega)]
section
variable (last x a b:Int) (w:World)
theorem zlt (x0:0≤x) (x1:x≤65535) (l0 : -9223372036854775808≤last) (l1:last≤9223372036854775807):Calls Tryz.prog 90 #[.int .i64 last, .int .i64 x, .int .i64 65536] w fun e w'=>e = .returned (.int .i64 (Pk.near last x 65536))∧w=w':=by
 obtain ⟨R,A⟩:=nm9 (Pk.near last x 65536)
 rw [← A]
 unfold Pk.near at A
 by_cases h1:last < -1152921504606846976
 · rw [if_pos (.inl h1)] at A
   subst A
   go_enter Tryz.func90,Tryz.ntmps90
   go_wp2
   go_ret
   exact ⟨rfl,rfl⟩
 by_cases h2:1152921504606846976<last
 · rw [if_pos (.inr h2)] at A
   subst A
   go_enter Tryz.func90,Tryz.ntmps90
   go_wp2
   go_ret
   exact ⟨rfl,rfl⟩
 rw [if_neg (by omega)] at A
 have F : -1152921504606846976≤last:=by omega
 have C:last≤1152921504606846976:=by omega
 have B:=zgb (x-last)
 obtain ⟨d,hd⟩:=nm9 ((x-last) % 65536)
 have D:0≤d:=by omega
 have E:d≤65535:=by omega
 rw [← hd] at A B
 rw [show (65536:Int) / 2=32768 by decide] at A
 clear h1 h2
 clear hd
 by_cases h3:32768<d
 · rw [if_pos h3] at A
   have HR:=Z9 A
   clear A
   go_enter Tryz.func90,Tryz.ntmps90
   go_wp2
   go_ret
   exact ⟨zev (by have:=HR.out;omega),rfl⟩
 · rw [if_neg h3] at A
   have HR:=Z9 A
   have G:d≤32768:=by omega
   clear A h3
   go_enter Tryz.func90,Tryz.ntmps90
   go_wp2
   go_ret
   exact ⟨zev (by have:=HR.out;omega),rfl⟩
theorem zlu (x0:0≤x) (x1:x≤4294967295) (l0 : -9223372036854775808≤last) (l1:last≤9223372036854775807):Calls Tryz.prog 90 #[.int .i64 last, .int .i64 x, .int .i64 4294967296] w fun e w'=>e = .returned (.int .i64 (Pk.near last x 4294967296))∧w=w':=by
 obtain ⟨R,A⟩:=nm9 (Pk.near last x 4294967296)
 rw [← A]
 unfold Pk.near at A
 by_cases h1:last < -1152921504606846976
 · rw [if_pos (.inl h1)] at A
   subst A
   go_enter Tryz.func90,Tryz.ntmps90
   go_wp2
   go_ret
   exact ⟨rfl,rfl⟩
 by_cases h2:1152921504606846976<last
 · rw [if_pos (.inr h2)] at A
   subst A
   go_enter Tryz.func90,Tryz.ntmps90
   go_wp2
   go_ret
   exact ⟨rfl,rfl⟩
 rw [if_neg (by omega)] at A
 have F : -1152921504606846976≤last:=by omega
 have C:last≤1152921504606846976:=by omega
 have B:=zls (x-last)
 obtain ⟨d,hd⟩:=nm9 ((x-last) % 4294967296)
 have D:0≤d:=by omega
 have E:d≤4294967295:=by omega
 rw [← hd] at A B
 rw [show (4294967296:Int) / 2=2147483648 by decide] at A
 clear h1 h2
 clear hd
 by_cases h3:2147483648<d
 · rw [if_pos h3] at A
   have HR:=Z9 A
   clear A
   go_enter Tryz.func90,Tryz.ntmps90
   go_wp2
   go_ret
   exact ⟨zev (by have:=HR.out;omega),rfl⟩
 · rw [if_neg h3] at A
   have HR:=Z9 A
   have G:d≤2147483648:=by omega
   clear A h3
   go_enter Tryz.func90,Tryz.ntmps90
   go_wp2
   go_ret
   exact ⟨zev (by have:=HR.out;omega),rfl⟩
theorem zgc (x0:0≤x) (x1:x≤65535) (l0 : -9223372036854775808≤last) (l1:last≤9223372036854775807):Calls Tryz.prog 88 #[.int .i64 last, .int .u16 x] w fun e w'=>e = .returned (.int .i64 (Pk.near last x 65536))∧w=w':=by
 have k1:=fun W=>zlt last x W x0 x1 l0 l1
 generalize Pk.near last x 65536=R at *
 have A:=Z9 k1
 clear k1
 go_enter Tryz.func88,Tryz.ntmps88
 go_wp2_with fail
 refine (A.out _).mono ?_
 rintro e w1 ⟨rfl,rfl⟩
 go_wp2
 go_ret
 exact ⟨rfl,rfl⟩
theorem zfs (x0:0≤x) (x1:x≤4294967295) (l0 : -9223372036854775808≤last) (l1:last≤9223372036854775807):Calls Tryz.prog 62 #[.int .i64 last, .int .u32 x] w fun e w'=>e = .returned (.int .i64 (Pk.near last x 4294967296))∧w=w':=by
 have k1:=fun W=>zlu last x W x0 x1 l0 l1
 generalize Pk.near last x 4294967296=R at *
 have A:=Z9 k1
 clear k1
 go_enter Tryz.func62,Tryz.ntmps62
 go_wp2_with fail
 refine (A.out _).mono ?_
 rintro e w1 ⟨rfl,rfl⟩
 go_wp2
 go_ret
 exact ⟨rfl,rfl⟩
end
end
section
attribute [local go_sem] zaa zad
open Go.RowKit
def PutR (base:Nat) (w:World) (A:Option Addr) (out:List Int) (e:Ending) (w':World):Prop :=
 ∃ (A':Option Addr) (c':Nat),e = .returned (.slice A' out.length c')∧Owns w' base 5 1 A' out.length c' (pu8s out)∧Grow w A w' A'
section
variable (w:World) (base:Nat) (A:Option Addr) (c:Nat) (bs:List Int) (x:Int) (n:Nat)
theorem zuz (ho:Owns w base 5 1 A bs.length c (pu8s bs)) (J:base≤w.heap.size) (hn:n≤4) (x0:0≤x) (x1:x≤4294967295) (hb:bs.length≤100000) :
 Calls Tryz.prog 53 #[.slice A bs.length c, .int .u32 x, .int .i64 n] w (PutR base w A (bs++be n x)):=by
 have B:=Z9 ho
 have P:=Z9 J
 clear ho J
 go_enter Tryz.func53,Tryz.ntmps53
 go_wp2_with fail
 go_loopg [0,2] n (fun gk s0 K wr => ∃ (r:Nat) (A':Option Addr) (c':Nat) (out C:List Int),r=gk∧r≤n∧K = .int .i64 r∧s0 = .slice A' out.length c'∧Hid (out=bs++C)∧Hid (be n x=C++be r x)∧Hid (Owns wr base 5 1 A' out.length c' (pu8s out))∧Hid (Grow w A wr A'))
 case atStart=>exact ⟨n,A,c,bs,[],rfl,Nat.le_refl _,rfl,rfl,Z9 (by simp),Z9 rfl,B,Z9 (Grow.refl w A)⟩
 case round =>
  clear B
  obtain ⟨r,A',c',out,C,hr,Z,rfl,rfl,F,D,B,E⟩:=hrel
  have f:out.length≤200000:=by
   have h1:=F.out
   have h2:=congrArg List.length D.out
   rw [List.length_append,zap,zap] at h2
   rw [h1,List.length_append];omega
  have M:=Nat.le_trans P.out E.out.size
  by_cases N:r=0
  · subst N
    have d:((0:Nat):Int)≤0:=by omega
    go_wp2_with fail
    go_ret
    have he:out=bs++be n x:=by rw [F.out,D.out];simp [be]
    have H:=Z9 he
    clear he
    exact ⟨A',c',by rw [H.out];rfl,by rw [← H.out];exact B.out,E.out⟩
  · obtain ⟨q,rfl⟩:∃ q,r=q+1:=⟨r-1,by omega⟩
    have V:((q+1:Nat):Int)-1=(q:Int):=by omega
    have Y:(0:Int)<((q+1:Nat):Int):=by omega
    have L:IntKind.i64.wrap (((q+1:Nat):Int)-1)=(q:Int):=by rw [V];exact zcw _ (by omega) (by omega)
    have hf:=zgq q x x0
    have G:=zhr q
    have R:=Z9 hf
    have U:=Z9 G
    have X:(q:Int)<4:=by omega
    have b:(0:Int)≤(q:Int):=by omega
    clear hf G
    go_wp2_with (at_builtin;go_loud (refine zan rfl _ _ 69 rfl base 5 1 1 (.int .u8 0) Tryz.underlying69 zei rfl (by decide) A' out.length c' (pu8s out) rfl B.out [.int .u8 _] rfl (by simp [Value.oneCell']) rfl (by unfold maxLen;omega) (by omega) M ?_);intro A2 c2 w2 I T O)
    go_roundg (gk-1)
    case measure=>omega
    case rel =>
     refine ⟨q,A2,c2,out ++ [x / 256 ^ q % 256],C ++ [x / 256 ^ q % 256],by omega,by omega,by go_num,by rw [List.length_append];rfl,Z9 ?_,Z9 ?_,Z9 (zux ?_),Z9 (E.out.step T O)⟩
     · rw [F.out,List.append_assoc]
     · rw [D.out,R.out];simp
     · rw [← U.out]
       rw [show gk-1=q by omega] at I
       exact I
end
end
section
open Go.RowKit
end
end Go.Proofs.YtbcgnddpkiemoaaGreat
