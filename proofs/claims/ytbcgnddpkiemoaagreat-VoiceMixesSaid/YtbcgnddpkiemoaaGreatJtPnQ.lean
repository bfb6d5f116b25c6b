/- Layer 30: Put of the program while it works: what lies in memory, what it leaves. -/
import Derived.Test.YtbcgnddpkiemoaaGreatSs9Q
import Derived.Test.YtbcgnddpkiemoaaGreatJtValidQ
import Derived.Test.YtbcgnddpkiemoaaGreatJtCopyQ
import Derived.Test.YtbcgnddpkiemoaaGreatVoFunQ
import Derived.StillTailTactics
import Derived.Test.YtbcgnddpkiemoaaGreatSbDecsQ
import Derived.RegionTactic
import Derived.ChangeAlike
import Derived.Deep.RegionHeld3
import Derived.Laws.CopyOwn
import Derived.Laws.MakeOwn
import Derived.Laws.OwnMore
import Derived.Lib.SliceRun
set_option linter.unusedVariables false
set_option linter.unusedSimpArgs false
set_option maxRecDepth 100000
set_option maxHeartbeats 12800000
namespace Go.Proofs.YtbcgnddpkiemoaaGreat
attribute [local go_sem ↓] zab zac
attribute [local go_sem] zaa zad
open Go.RowKit
theorem r110 (s:Nat→Value):((List.range 110).map s).toArray = #[s 0,s 1,s 2,s 3,s 4,s 5,s 6,s 7,s 8,s 9,s 10,s 11,s 12,s 13,s 14,s 15,s 16,s 17,s 18,s 19,s 20,s 21,s 22,s 23,s 24,s 25,s 26,s 27,s 28,s 29,s 30,s 31,s 32,s 33,s 34,s 35,s 36,s 37,s 38,s 39,s 40,s 41,s 42,s 43,s 44,s 45,s 46,s 47,s 48,s 49,s 50,s 51,s 52,s 53,s 54,s 55,s 56,s 57,s 58,s 59,s 60,s 61,s 62,s 63,s 64,s 65,s 66,s 67,s 68,s 69,s 70,s 71,s 72,s 73,s 74,s 75,s 76,s 77,s 78,s 79,s 80,s 81,s 82,s 83,s 84,s 85,s 86,s 87,s 88,s 89,s 90,s 91,s 92,s 93,s 94,s 95,s 96,s 97,s 98,s 99,s 100,s 101,s 102,s 103,s 104,s 105,s 106,s 107,s 108,s 109]:=rfl
structure PN (w W:World) (lo B:Nat) (s:Jb.Jt) (m:Jb.Md) (MA:Option Addr) (mc:Nat) (A1:Option Addr) (l1:List TW) (A2:Option Addr) (c2:Nat) (l2:List TW):Prop where
 S:PSt w W lo B (JL s A2 l2.length c2) (ML m MA m.pl.length mc) A1 l1 A2 l2.length c2 l2
 hq:l2.map TW.w=s.q
structure PI (s:Jb.Jt) (m:Jb.Md) (now:Int) (l2:List TW):Prop where
 nw:s.now=now
 n0:0≤now
 n1:now≤281474976710656
 t0 : -281474976710656≤m.ti
 t1:m.ti≤281474976710656
 la0:0≤s.late
 la1:s.late≤281474976710656
 tw0:0≤s.twice
 tw1:s.twice≤281474976710656
 sp0:0≤s.spread
 sp1:s.spread≤72057594037927936
 tr0 : -1125899906842624≤s.trans
 tr1:s.trans≤1125899906842624
 cf:Jb.cfg s.least s.most
 ok:Jb.okQ now s.high s.q
 z0 : -1125899906842624≤(Jb.meas s m).zero
 z1:(Jb.meas s m).zero≤1125899906842624
 f0 : -281474976710656≤(Jb.meas s m).first
 f1:(Jb.meas s m).first≤281474976710656
def PutP (T:Jb.Jt×Int) (D:List Jb.Wt) (w:World) (e:Ending) (w':World):Prop :=
 ∃ (A1:Option Addr) (c1:Nat) (l1:List TW) (A2:Option Addr) (c2:Nat) (l2:List TW),e = .returned (.tuple #[JV T.1 A2 l2.length c2, .slice A1 l1.length c1, .int .u8 T.2, .int .u8 0])∧l1.map TW.w=D∧l2.map TW.w=T.1.q∧WtsIn w' w.heap.size w'.heap.size A1 l1∧WtsIn w' w.heap.size w'.heap.size A2 l2∧l2.length≤c2∧c2≤maxLen∧Below w.heap.size w w'∧l1.length≤c1∧c1≤maxLen
section
variable {w W W':World} {lo B c1 c2 mc:Nat} {s:Jb.Jt} {m:Jb.Md} {MA A1 A2:Option Addr} {l1 l2:List TW} {T:Jb.Jt×Int}
theorem PN.later (h:PN w W lo B s m MA mc A1 l1 A2 c2 l2) (hb:Below W.heap.size W W'):PN w W' lo B s m MA mc A1 l1 A2 c2 l2:=⟨h.S.later hb,h.hq⟩
theorem PN.put (h:PN w W lo B s m MA mc A1 l1 A2 c2 l2) (i:Nat) (v:Value) (s':Jb.Jt) (hJ:(JL s A2 l2.length c2).set i v=JL s' A2 l2.length c2:=by rfl) (hq:s.q=s'.q:=by rfl):PN w (W.setCell ⟨w.heap.size,i,none⟩ v) lo B s' m MA mc A1 l1 A2 c2 l2:=⟨by have:=h.S.set i v;rw [hJ] at this;exact this,h.hq.trans hq⟩
theorem QOwn.onlyB {g n c:Nat} {A:Option Addr} {l:List TW} (h:QOwn W B A n c l) (ho:OnlyB g W W') (hg:g<B):QOwn W' B A n c l :=
 ⟨h.len,ho.owns h.own hg,fun a ha h0=>by
  obtain ⟨b,off,e,hlt,hc⟩:=h.pay a ha h0
  have:=h.new a ha h0 b off e
  exact ⟨b,off,e,by rw [ho.2];exact hlt,fun i hi=>(ho.cell (show b≠g by omega)).trans (hc i hi)⟩,h.far,h.new,h.cap⟩
theorem PN.box {s':Jb.Jt} (h:PN w W lo B s m MA mc A1 l1 A2 c2 l2) (ho:OnlyB w.heap.size W W') (hb:Blk W' w.heap.size 37 (JL s' A2 l2.length c2).toArray) (hq:s.q=s'.q):PN w W' lo B s' m MA mc A1 l1 A2 c2 l2:=by
 have h1:=h.S.lo1
 have h2:=h.S.lo2
 exact ⟨⟨hb,ho.blk h.S.bm (by omega),ho.blk h.S.br (by omega),ho.bel h.S.u (Nat.le_refl _),h.S.p1.keep fun p g1 g2=>ho.cell (by omega),h.S.q2.onlyB ho (by omega),h.S.lo1,h.S.lo2,by rw [ho.2];exact h.S.hB⟩,h.hq.trans hq⟩
theorem PN.done {WB:World} {v:Int} (h:PN w W lo B s m MA mc A1 l1 A2 c2 l2) (ho:OnlyB (w.heap.size+1+1) W WB) (hc1:l1.length≤c1) (hc1m:c1≤maxLen) (hT:T=(s,v)):PutP T (l1.map TW.w) w (.returned (.tuple #[JV s A2 l2.length c2, .slice A1 l1.length c1, .int .u8 v, .int .u8 0])) WB:=by
 subst hT
 have h1:=h.S.lo1
 have h2:=h.S.lo2
 have h3:=h.S.hB
 have hs:=ho.2
 exact ⟨A1,c1,l1,A2,c2,l2,rfl,rfl,h.hq,((h.S.p1.keep fun p g1 g2=>ho.cell (by omega)).more (by omega)).less (by omega),((h.S.q2.wtsIn.keep fun p g1 g2=>ho.cell (by omega)).more (by omega)).less (by omega),h.S.q2.own.cap,Owns.capm h.S.q2.own,ho.bel h.S.u (by omega),hc1,hc1m⟩
end
theorem zss {W:World} {g:Nat} {t:TypeId} {v0 v1 v2 v3 v4 v5:Value} (h:Blk W g t #[v0,v1,v2,v3,v4,v5]):W.cell? ⟨g,0,none⟩=some v0∧W.cell? ⟨g,1,none⟩=some v1∧W.cell? ⟨g,2,none⟩=some v2∧W.cell? ⟨g,3,none⟩=some v3∧W.cell? ⟨g,4,none⟩=some v4∧W.cell? ⟨g,5,none⟩=some v5:=⟨h.at 0 _ rfl,h.at 1 _ rfl,h.at 2 _ rfl,h.at 3 _ rfl,h.at 4 _ rfl,h.at 5 _ rfl⟩
noncomputable def pn5_code:Code:=((Tryz.f64.body.bind (fromReg 5)).getD .skip)
noncomputable def pn14_code:Code:=((Tryz.f64.body.bind (fromReg 14)).getD .skip)
noncomputable def pn21_code:Code:=((Tryz.f64.body.bind (fromReg 21)).getD .skip)
theorem zto {w W:World} {lo B:Nat} {s:Jb.Jt} {m:Jb.Md} {MA:Option Addr} {mc:Nat} {A1:Option Addr} {l1:List TW} {c1:Nat} {A2:Option Addr} {c2:Nat} {l2:List TW} {now:Int} {T:Jb.Jt×Int} {hgh:Int} {AT:Int} (S:PN w W lo B s m MA mc A1 l1 A2 c2 l2) (hc1:l1.length≤c1) (hc1m:c1≤maxLen) (MI:IntsAt w w.heap.size .u8 MA m.pl) (hm9:m.pl.length≤100000) (hok:Jb.okQ now hgh s.q) (hany:(s.q.any fun w=>w.m.sq==m.sq)=false) (hT:T=({ s with q:=Jb.ins s.q ⟨AT,m⟩ }, 1)) (a:Act) (ha:Fr 110 [(1, .int .i64 now),(3, .pointer (some ⟨w.heap.size,0,none⟩)),(5, .pointer (some ⟨w.heap.size+1,0,none⟩)),(6, .pointer (some ⟨w.heap.size+1+1,0,none⟩)),(11, .slice A1 l1.length c1),(13, .int .i64 AT)] a):firstWp Tryz.prog pn21_code (bodyPost Tryz.prog Tryz.f64 (PutP T (l1.map TW.w) w)) a W:=by
 obtain ⟨s_,rfl,e1,e3,e5,e6,e11,e13,_⟩:=ha
 rw [r110,e1,e3,e5,e6,e11,e13]
 clear e1 e3 e5 e6 e11 e13
 have hl2:l2.length≤200:=by have:=hok.1;rw [← S.hq] at this;simpa using this
 have hasc:=((Jb.okQ_iff _ _ _).1 hok).2.2.1
 have hne9:∀ y∈s.q,y.m.sq≠m.sq:=fun y hy e=>by
  rw [List.any_eq_false] at hany
  exact hany y hy (by simpa using e)
 rw [← S.hq] at hasc hne9
 have HASC:=Z9 hasc
 have HNE:=Z9 hne9
 have HT:=Z9 hT
 clear hasc hne9 hok hany hT
 refine zaq ?_
 intro _ _
 go_wp2_with (first|(refine zae rfl 183 (.tmp 5) rfl (w.heap.size+1) 0 rfl 183 (ML m MA m.pl.length mc) S.S.bm 5 _ Tryz.underlying183 zhe (show 0+5≤5 by decide) #[.int .i64 m.sq, .int .i64 m.ti, .bool m.mrk, .int .u8 m.ty, .slice MA m.pl.length mc] (by rfl) rfl ?_)|fail)
 refine (zcu m.sq m.ti m.mrk m.ty MA m.pl m.pl.length mc _ w.heap.size (Nat.le_of_lt (Nat.lt_of_le_of_lt (Nat.le_succ _) S.S.bm.lt)) (MI.below S.S.u) (by omega) rfl).mono ?_
 rintro e w7 ⟨A9,c9,rfl,hI9,hb7,hcp9⟩
 have hwb:=hb7.size
 have hobl:∀ g,ownB A2=some g→g<W.heap.size:=fun g hg=>(S.S.q2.own.block g hg).2
 have hB6:=S.S.hB
 replace S:=(S.later hb7).later ((Below.refl w7.heap.size w7).alloc (Nat.le_refl _) (.cells #[.int .i64 AT, .int .i64 m.sq, .int .i64 m.ti, .bool m.mrk, .int .u8 m.ty, .slice A9 m.pl.length c9] 220))
 have BW:=Z9 (Blk.new w7 220 #[.int .i64 AT, .int .i64 m.sq, .int .i64 m.ti, .bool m.mrk, .int .u8 m.ty, .slice A9 m.pl.length c9])
 have HI9:=Z9 (hI9.push (.cells #[.int .i64 AT, .int .i64 m.sq, .int .i64 m.ti, .bool m.mrk, .int .u8 m.ty, .slice A9 m.pl.length c9] 220))
 clear hb7 hI9
 go_upto_region 22 with fail
 have hs8:=Nat.lt_of_le_of_lt hwb BW.out.lt
 generalize hgx:w7.heap.size=gx at *
 generalize w7.alloc _=W8 at *
 clear hgx
 have b10:W8.cell? ⟨w.heap.size,10,none⟩=some (.slice A2 l2.length c2):=S.S.bs.at 10 _ rfl
 obtain ⟨x0,x1,x2,x3,x4,x5⟩:=zss BW.out
 go_wp2_with fail
 refine (zjn A2 l2 l2.length c2 ⟨AT,m⟩ A9 m.pl.length c9 _ rfl (by omega) S.S.q2.wts HASC.out HNE.out).mono ?_
 rintro e w9 ⟨rfl,hb9⟩
 have hplace:=zsk (l2.map TW.w) ⟨AT,m⟩
 rw [List.length_map] at hplace
 have hsplit:=zjm (l2.map TW.w) ⟨AT,m⟩
 generalize place (l2.map TW.w) ⟨AT,m⟩=PP at hplace hsplit ⊢
 have HSPL:=Z9 hsplit
 replace S:=S.later hb9
 replace HI9:=Z9 (HI9.out.later hb9)
 replace BW:=Z9 (BW.out.later hb9)
 have hsz9:=hb9.size
 clear hb9 hsplit b10 x0 x1 x2 x3 x4 x5
 go_upto_region 23 with fail
 have b10:w9.cell? ⟨w.heap.size,10,none⟩=some (.slice A2 l2.length c2):=S.S.bs.at 10 _ rfl
 obtain ⟨x0,x1,x2,x3,x4,x5⟩:=zss BW.out
 replace S:=S.later ((Below.refl w9.heap.size w9).alloc (Nat.le_refl _) (.cells #[.int .i64 AT, .int .i64 m.sq, .int .i64 m.ti, .bool m.mrk, .int .u8 m.ty, .slice A9 m.pl.length c9] 220))
 have BV:=Z9 (Blk.new w9 220 #[.int .i64 AT, .int .i64 m.sq, .int .i64 m.ti, .bool m.mrk, .int .u8 m.ty, .slice A9 m.pl.length c9])
 replace HI9:=Z9 (HI9.out.push (.cells #[.int .i64 AT, .int .i64 m.sq, .int .i64 m.ti, .bool m.mrk, .int .u8 m.ty, .slice A9 m.pl.length c9] 220))
 have hwz:W.heap.size<w9.heap.size:=by omega
 have hfz:=S.S.bs.frozen
 go_wp2_with fail
 refine (zmp B l2.length c2 PP w9.heap.size A2 l2 (⟨⟨AT,m⟩,A9,c9⟩:TW) _ (by omega) S.S.hB S.S.q2 hplace BV.out (fun e=>by have h9:=hobl _ e.symm;omega) HI9.out.1 (fun h0 b off e he=>by have h9:=HI9.out.2 h0 b off e;have h8:=hobl b he.symm;omega) (fun h0 b off e=>by have h9:=HI9.out.2 h0 b off e;omega) hcp9).mono ?_
 rintro e w11 ⟨A3,c3,rfl,hq3,hb3⟩
 have hl3m:(l2.take PP++(⟨⟨AT,m⟩,A9,c9⟩:TW)::l2.drop PP).map TW.w=Jb.ins s.q ⟨AT,m⟩:=by rw [← S.hq,HSPL.out,List.map_append,List.map_cons,List.map_take,List.map_drop]
 have hl3:(l2.take PP++(⟨⟨AT,m⟩,A9,c9⟩:TW)::l2.drop PP).length=l2.length+1:=hq3.len
 have S3:=S.S.ins hb3 hq3
 generalize (l2.take PP++(⟨⟨AT,m⟩,A9,c9⟩:TW)::l2.drop PP)=l3 at *
 clear hb3 hq3 S b10 x0 x1 x2 x3 x4 x5 BV HI9 BW hfz
 have b10:w11.cell? ⟨w.heap.size,10,none⟩=some (.slice A2 l2.length c2):=S3.bs.at 10 _ rfl
 have bfz:=S3.bs.frozen
 go_upto_region 24 with fail
 have S4:=S3.set 10 (.slice A3 (l2.length+1) c3)
 rw [← hl3] at S4
 rw [← hl3]
 have S:PN w _ lo B { s with q:=Jb.ins s.q ⟨AT,m⟩ } m MA mc A1 l1 A3 c3 l3:=⟨S4,hl3m⟩
 clear S4 S3 b10 bfz hl3 hl3m
 generalize w11.setCell _ _=W12 at S ⊢
 go_wp2_with (first|(refine zae rfl 37 (.tmp 3) rfl (w.heap.size) 0 rfl 37 (JL { s with q:=Jb.ins s.q ⟨AT,m⟩ } A3 l3.length c3) S.S.bs 14 _ Tryz.underlying37 zap (show 0+14≤14 by decide) (JL { s with q:=Jb.ins s.q ⟨AT,m⟩ } A3 l3.length c3).toArray (by rfl) rfl ?_)|(refine zaf rfl 37 (.tmp 6) (.tmp 108) rfl (w.heap.size+1+1) 0 rfl 37 Z14 S.S.br (JL { s with q:=Jb.ins s.q ⟨AT,m⟩ } A3 l3.length c3) rfl zap (show 0+14≤14 by decide) rfl (JL { s with q:=Jb.ins s.q ⟨AT,m⟩ } A3 l3.length c3) rfl ?_;intro WB BB OB)|fail)
 exact bodyPost_ret (v := .tuple #[JV { s with q:=Jb.ins s.q ⟨AT,m⟩ } A3 l3.length c3, .slice A1 l1.length c1, .int .u8 1, .int .u8 0]) (zbl Tryz.results64 rfl (run_loadVar_row (P:=Tryz.prog) _ _ _ _ _ _ _ BB Tryz.underlying37 rfl (by kernel_rfl)) rfl rfl rfl) rfl (S.done OB hc1 hc1m HT.out)
theorem zld (s:Jb.Jt) (m:Jb.Md) (now:Int) (hn:s.now=now) (h0:(s.q.any fun w=>w.m.sq==m.sq)=false) (h1:¬(s.on=true∧m.sq≤s.done)) (h2:¬200≤s.q.length):Jb.put0 s m=tailT (Jb.meas s m) m now:=by
 subst hn
 exact zpu s m h0 h1 h2 _ _ rfl rfl
theorem znd {w W:World} {lo B:Nat} {s:Jb.Jt} {m:Jb.Md} {MA:Option Addr} {mc:Nat} {A1:Option Addr} {l1:List TW} {c1:Nat} {A2:Option Addr} {c2:Nat} {l2:List TW} {now:Int} {T:Jb.Jt×Int} (S:PN w W lo B s m MA mc A1 l1 A2 c2 l2) (hc1:l1.length≤c1) (hc1m:c1≤maxLen) (I:PI s m now l2) (MI:IntsAt w w.heap.size .u8 MA m.pl) (hm9:m.pl.length≤100000) (hany:(s.q.any fun w=>w.m.sq==m.sq)=false) (hT:T=tailT (Jb.meas s m) m now) (a:Act) (ha:Fr 110 [(1, .int .i64 now),(3, .pointer (some ⟨w.heap.size,0,none⟩)),(5, .pointer (some ⟨w.heap.size+1,0,none⟩)),(6, .pointer (some ⟨w.heap.size+1+1,0,none⟩)),(11, .slice A1 l1.length c1)] a):firstWp Tryz.prog pn14_code (bodyPost Tryz.prog Tryz.f64 (PutP T (l1.map TW.w) w)) a W:=by
 obtain ⟨s_,rfl,e1,e3,e5,e6,e11,_⟩:=ha
 rw [r110,e1,e3,e5,e6,e11]
 clear e1 e3 e5 e6 e11
 have hl2:l2.length≤200:=by have:=I.ok.1;rw [← S.hq] at this;simpa using this
 have hat2:∀ a∈l2,0≤a.w.at_∧a.w.at_≤562949953421312:=fun a ha=>by
  have h9:=((Jb.okQ_iff _ _ _).1 I.ok).2.1 a.w (by rw [← S.hq];exact List.mem_map.2 ⟨a,ha,rfl⟩)
  have h8:=h9.2.1
  have h7:=h9.2.2.1
  have h6:=I.n0
  omega
 obtain ⟨mz1,mz2,mz3,mz4,mz5,mz6⟩:=Jb.meas_q s m
 obtain ⟨s2,hs2⟩:∃ s2,s2=Jb.meas s m:=⟨_,rfl⟩
 have hz:=And.intro (And.intro I.z0 I.z1) (And.intro I.f0 I.f1)
 have hok2:=I.ok
 rw [← mz1] at hok2 hany
 rw [← hs2] at mz1 mz3 hT hz hok2 hany
 have k4:=fun (W:World) (hW:Wts W W.heap.size A2 l2)=>zjr s.least s.most s.now s.on s.zero s.first s.high s.done s.spread s.trans A2 l2 l2.length c2 s.late s.twice s.played m.sq m.ti m.mrk m.ty MA m.pl.length mc W rfl hl2 hW (by rw [I.nw];exact I.n0) (by rw [I.nw];exact I.n1) I.t0 I.t1 I.tr0 I.tr1 I.sp0 I.sp1 I.cf.1 I.cf.2.1 I.cf.2.2 hat2 m.pl
 unfold MeasR at k4
 rw [S.hq] at k4
 have k5:∀ (W:World),Wts W W.heap.size A2 l2→Calls Tryz.prog 96 #[.agg #[.int .i64 s.least, .int .i64 s.most, .int .i64 s.now, .bool s.on, .int .i64 s.zero, .int .i64 s.first, .int .i64 s.high, .int .i64 s.done, .int .i64 s.spread, .int .i64 s.trans, .slice A2 l2.length c2, .int .i64 s.late, .int .i64 s.twice, .int .i64 s.played], .agg #[.int .i64 m.sq, .int .i64 m.ti, .bool m.mrk, .int .u8 m.ty, .slice MA m.pl.length mc]] W fun e w'=>e = .returned (JV s2 A2 l2.length c2)∧Below W.heap.size W w':=by rw [hs2];exact k4
 have K5:=Z9 k5
 have la0:0≤s2.late:=by rw [mz3];exact I.la0
 have la1:s2.late≤281474976710656:=by rw [mz3];exact I.la1
 have HT:=Z9 hT
 have HQ:=Z9 mz1
 have HO:=Z9 hok2
 have HA:=Z9 hany
 have HM:=Z9 MI
 obtain ⟨n0,n1,t0,t1⟩:0≤now∧now≤281474976710656 ∧ -281474976710656≤m.ti∧m.ti≤281474976710656:=⟨I.n0,I.n1,I.t0,I.t1⟩
 obtain ⟨⟨z0,z1⟩,f0,f1⟩:=hz
 clear hT mz1 mz2 mz3 mz4 mz5 mz6 hs2 k4 k5 hok2 hany MI hat2 I
 refine zaq ?_
 intro _ _
 go_wp2_with (first|(refine zae rfl 37 (.tmp 3) rfl (w.heap.size) 0 rfl 37 (JL s A2 l2.length c2) S.S.bs 14 _ Tryz.underlying37 zap (show 0+14≤14 by decide) #[.int .i64 s.least, .int .i64 s.most, .int .i64 s.now, .bool s.on, .int .i64 s.zero, .int .i64 s.first, .int .i64 s.high, .int .i64 s.done, .int .i64 s.spread, .int .i64 s.trans, .slice A2 l2.length c2, .int .i64 s.late, .int .i64 s.twice, .int .i64 s.played] (by rfl) rfl ?_)|(refine zae rfl 183 (.tmp 5) rfl (w.heap.size+1) 0 rfl 183 (ML m MA m.pl.length mc) S.S.bm 5 _ Tryz.underlying183 zhe (show 0+5≤5 by decide) #[.int .i64 m.sq, .int .i64 m.ti, .bool m.mrk, .int .u8 m.ty, .slice MA m.pl.length mc] (by rfl) rfl ?_)|fail)
 refine (K5.out _ S.S.q2.wts).mono ?_
 rintro e w5 ⟨rfl,hb5⟩
 replace S:=S.later hb5
 clear hb5 K5
 unfold JV
 go_upto_region 15 with (first|(refine zaf rfl 37 (.tmp 3) (.tmp 68) rfl (w.heap.size) 0 rfl 37 (JL s A2 l2.length c2) S.S.bs (JL s2 A2 l2.length c2) rfl zap (show 0+14≤14 by decide) rfl (JL s2 A2 l2.length c2) rfl ?_;intro WB BB OB)|fail)
 replace S:=S.box (s':=s2) OB BB HQ.out.symm
 clear OB BB
 generalize hAT:s2.zero+(m.ti-s2.first) / 8=AT
 have k6:=Z9 (zdt s2.least s2.most s2.now s2.on s2.zero s2.first s2.high s2.done s2.spread s2.trans A2 l2.length c2 s2.late s2.twice s2.played m.ti WB z0 z1 f0 f1 t0 t1)
 rw [hAT] at k6
 have hpt:Jb.ptime s2 m.ti=AT:=hAT
 unfold tailT at HT
 rw [hpt] at HT
 have hab : -1200000000000000≤AT∧AT≤1200000000000000:=by omega
 clear hAT hpt
 obtain ⟨at0,at1⟩:=hab
 have m1:WB.cell? ⟨w.heap.size+1,1,none⟩=some (.int .i64 m.ti):=S.S.bm.at 1 _ rfl
 go_wp2_with (first|(refine zae rfl 37 (.tmp 3) rfl (w.heap.size) 0 rfl 37 (JL s2 A2 l2.length c2) S.S.bs 14 _ Tryz.underlying37 zap (show 0+14≤14 by decide) #[.int .i64 s2.least, .int .i64 s2.most, .int .i64 s2.now, .bool s2.on, .int .i64 s2.zero, .int .i64 s2.first, .int .i64 s2.high, .int .i64 s2.done, .int .i64 s2.spread, .int .i64 s2.trans, .slice A2 l2.length c2, .int .i64 s2.late, .int .i64 s2.twice, .int .i64 s2.played] (by rfl) rfl ?_)|fail)
 refine k6.out.mono ?_
 rintro e w6 ⟨rfl,hb6⟩
 replace S:=S.later hb6
 clear hb6 k6 m1
 by_cases hla:AT≤now
 · have ht:T=({ s2 with late:=s2.late+1 }, 2):=by rw [HT.out];exact if_pos hla
   clear HT
   have HT:=Z9 ht
   have hlb:s2.late+1≤9000000000000000000:=by omega
   clear ht
   have b11:w6.cell? ⟨w.heap.size,11,none⟩=some (.int .i64 (s2).late):=S.S.bs.at 11 _ rfl
   have bfz:=S.S.bs.frozen
   go_upto_region 18 with fail
   clear b11 bfz
   replace S:=S.put 11 (.int .i64 (s2.late+1)) { s2 with late:=s2.late+1 }
   generalize w6.setCell _ _=W8 at S ⊢
   go_wp2_with (first|(refine zae rfl 37 (.tmp 3) rfl (w.heap.size) 0 rfl 37 (JL { s2 with late:=s2.late+1 } A2 l2.length c2) S.S.bs 14 _ Tryz.underlying37 zap (show 0+14≤14 by decide) (JL { s2 with late:=s2.late+1 } A2 l2.length c2).toArray (by rfl) rfl ?_)|(refine zaf rfl 37 (.tmp 6) (.tmp 81) rfl (w.heap.size+1+1) 0 rfl 37 Z14 S.S.br (JL { s2 with late:=s2.late+1 } A2 l2.length c2) rfl zap (show 0+14≤14 by decide) rfl (JL { s2 with late:=s2.late+1 } A2 l2.length c2) rfl ?_;intro WB BB OB)|fail)
   exact bodyPost_ret (v := .tuple #[JV { s2 with late:=s2.late+1 } A2 l2.length c2, .slice A1 l1.length c1, .int .u8 2, .int .u8 0]) (zbl Tryz.results64 rfl (run_loadVar_row (P:=Tryz.prog) _ _ _ _ _ _ _ BB Tryz.underlying37 rfl (by kernel_rfl)) rfl rfl rfl) rfl (S.done OB hc1 hc1m HT.out)
 replace hla:now<AT:=Int.not_le.1 hla
 by_cases hfar:now+120000<AT
 · have ht:T=(s2,5):=by rw [HT.out];rw [if_neg (Int.not_le.2 hla)];exact if_pos hfar
   clear HT
   have HT:=Z9 ht
   clear ht
   go_wp2_with (first|(refine zae rfl 37 (.tmp 3) rfl (w.heap.size) 0 rfl 37 (JL s2 A2 l2.length c2) S.S.bs 14 _ Tryz.underlying37 zap (show 0+14≤14 by decide) (JL s2 A2 l2.length c2).toArray (by rfl) rfl ?_)|(refine zaf rfl 37 (.tmp 6) (.tmp 88) rfl (w.heap.size+1+1) 0 rfl 37 Z14 S.S.br (JL s2 A2 l2.length c2) rfl zap (show 0+14≤14 by decide) rfl (JL s2 A2 l2.length c2) rfl ?_;intro WB BB OB)|fail)
   exact bodyPost_ret (v := .tuple #[JV s2 A2 l2.length c2, .slice A1 l1.length c1, .int .u8 5, .int .u8 0]) (zbl Tryz.results64 rfl (run_loadVar_row (P:=Tryz.prog) _ _ _ _ _ _ _ BB Tryz.underlying37 rfl (by kernel_rfl)) rfl rfl rfl) rfl (S.done OB hc1 hc1m HT.out)
 replace hfar:AT≤now+120000:=Int.not_lt.1 hfar
 have ht:T=({ s2 with q:=Jb.ins s2.q ⟨AT,m⟩ }, 1):=by rw [HT.out];rw [if_neg (Int.not_le.2 hla)];exact if_neg (Int.not_lt.2 hfar)
 clear HT
 have HT:=Z9 ht
 clear ht
 go_upto_region 21 with fail
 refine zan (by assumption) ?_
 exact zto S hc1 hc1m HM.out hm9 HO.out HA.out HT.out _ (Fr.mk rfl ⟨rfl,rfl,rfl,rfl,rfl,rfl,trivial⟩)
theorem zwa {w W:World} {lo B:Nat} {s:Jb.Jt} {m:Jb.Md} {MA:Option Addr} {mc:Nat} {A1:Option Addr} {l1:List TW} {c1:Nat} {A2:Option Addr} {c2:Nat} {l2:List TW} {now:Int} {T:Jb.Jt×Int} (S:PN w W lo B s m MA mc A1 l1 A2 c2 l2) (hc1:l1.length≤c1) (hc1m:c1≤maxLen) (I:PI s m now l2) (MI:IntsAt w w.heap.size .u8 MA m.pl) (hm9:m.pl.length≤100000) (hT:T=Jb.put0 s m) (a:Act) (ha:Fr 110 [(1, .int .i64 now),(3, .pointer (some ⟨w.heap.size,0,none⟩)),(5, .pointer (some ⟨w.heap.size+1,0,none⟩)),(6, .pointer (some ⟨w.heap.size+1+1,0,none⟩)),(11, .slice A1 l1.length c1)] a):firstWp Tryz.prog pn5_code (bodyPost Tryz.prog Tryz.f64 (PutP T (l1.map TW.w) w)) a W:=by
 obtain ⟨s_,rfl,e1,e3,e5,e6,e11,_⟩:=ha
 rw [r110,e1,e3,e5,e6,e11]
 clear e1 e3 e5 e6 e11
 have hl2:l2.length≤200:=by have:=I.ok.1;rw [← S.hq] at this;simpa using this
 have hlq:s.q.length=l2.length:=by rw [← S.hq,List.length_map]
 have k3:=zho A2 l2 l2.length c2 (w.heap.size+1) m.sq W rfl (by omega) S.S.q2.wts (S.S.bm.at 0 _ rfl) S.S.bm.lt
 rw [S.hq] at k3
 obtain ⟨any,hany⟩:∃ b,b=(s.q.any fun x=>x.m.sq==m.sq):=⟨_,rfl⟩
 rw [← hany] at k3
 replace k3:=Z9 k3
 have tw0:=I.tw0
 have tw1:s.twice+1≤9000000000000000000:=Int.le_trans (Int.add_le_add_right I.tw1 1) (by decide)
 have la0:=I.la0
 have la1:s.late+1≤9000000000000000000:=Int.le_trans (Int.add_le_add_right I.la1 1) (by decide)
 have HI:=Z9 I
 have HY:=Z9 hany.symm
 have HT:=Z9 hT
 have HM:=Z9 MI
 clear I hany hT MI
 refine zaq ?_
 intro _ _
 have b10:W.cell? ⟨w.heap.size,10,none⟩=some (.slice A2 l2.length c2):=S.S.bs.at 10 _ rfl
 go_wp2_with fail
 refine k3.out.mono ?_
 rintro e w4 ⟨rfl,hb4⟩
 replace S:=S.later hb4
 clear hb4 k3 b10
 cases any
 rotate_left
 · have ht:T=({ s with twice:=s.twice+1 }, 3):=by rw [HT.out];exact zmq s m HY.out
   clear HT
   have HT:=Z9 ht
   clear ht hlq
   have b12:w4.cell? ⟨w.heap.size,12,none⟩=some (.int .i64 s.twice):=S.S.bs.at 12 _ rfl
   have bfz:=S.S.bs.frozen
   go_upto_region 8 with fail
   clear b12 bfz
   replace S:=S.put 12 (.int .i64 (s.twice+1)) { s with twice:=s.twice+1 }
   generalize w4.setCell _ _=W8 at S ⊢
   go_wp2_with (first|(refine zae rfl 37 (.tmp 3) rfl (w.heap.size) 0 rfl 37 (JL { s with twice:=s.twice+1 } A2 l2.length c2) S.S.bs 14 _ Tryz.underlying37 zap (show 0+14≤14 by decide) (JL { s with twice:=s.twice+1 } A2 l2.length c2).toArray (by rfl) rfl ?_)|(refine zaf rfl 37 (.tmp 6) (.tmp 41) rfl (w.heap.size+1+1) 0 rfl 37 Z14 S.S.br (JL { s with twice:=s.twice+1 } A2 l2.length c2) rfl zap (show 0+14≤14 by decide) rfl (JL { s with twice:=s.twice+1 } A2 l2.length c2) rfl ?_;intro WB BB OB)|fail)
   exact bodyPost_ret (v := .tuple #[JV { s with twice:=s.twice+1 } A2 l2.length c2, .slice A1 l1.length c1, .int .u8 3, .int .u8 0]) (zbl Tryz.results64 rfl (run_loadVar_row (P:=Tryz.prog) _ _ _ _ _ _ _ BB Tryz.underlying37 rfl (by kernel_rfl)) rfl rfl rfl) rfl (S.done OB hc1 hc1m HT.out)
 obtain ⟨on,hon⟩:∃ on,on=s.on:=⟨_,rfl⟩
 have b3:w4.cell? ⟨w.heap.size,3,none⟩=some (.bool on):=by rw [hon];exact S.S.bs.at 3 _ rfl
 have b7:w4.cell? ⟨w.heap.size,7,none⟩=some (.int .i64 s.done):=S.S.bs.at 7 _ rfl
 have b10:w4.cell? ⟨w.heap.size,10,none⟩=some (.slice A2 l2.length c2):=S.S.bs.at 10 _ rfl
 have b11:w4.cell? ⟨w.heap.size,11,none⟩=some (.int .i64 s.late):=S.S.bs.at 11 _ rfl
 have m0:w4.cell? ⟨w.heap.size+1,0,none⟩=some (.int .i64 m.sq):=S.S.bm.at 0 _ rfl
 have bfz:=S.S.bs.frozen
 by_cases hlate:on=true∧m.sq≤s.done
 · have ht:T=({ s with late:=s.late+1 }, 2):=by rw [HT.out];exact zps s m HY.out (by rw [← hon];exact hlate)
   clear HT
   have HT:=Z9 ht
   clear ht hon hlq
   obtain ⟨rfl,hls⟩:=hlate
   go_upto_region 11 with fail
   clear b3 b7 m0 b10 b11 bfz
   replace S:=S.put 11 (.int .i64 (s.late+1)) { s with late:=s.late+1 }
   generalize w4.setCell _ _=W8 at S ⊢
   go_wp2_with (first|(refine zae rfl 37 (.tmp 3) rfl (w.heap.size) 0 rfl 37 (JL { s with late:=s.late+1 } A2 l2.length c2) S.S.bs 14 _ Tryz.underlying37 zap (show 0+14≤14 by decide) (JL { s with late:=s.late+1 } A2 l2.length c2).toArray (by rfl) rfl ?_)|(refine zaf rfl 37 (.tmp 6) (.tmp 57) rfl (w.heap.size+1+1) 0 rfl 37 Z14 S.S.br (JL { s with late:=s.late+1 } A2 l2.length c2) rfl zap (show 0+14≤14 by decide) rfl (JL { s with late:=s.late+1 } A2 l2.length c2) rfl ?_;intro WB BB OB)|fail)
   exact bodyPost_ret (v := .tuple #[JV { s with late:=s.late+1 } A2 l2.length c2, .slice A1 l1.length c1, .int .u8 2, .int .u8 0]) (zbl Tryz.results64 rfl (run_loadVar_row (P:=Tryz.prog) _ _ _ _ _ _ _ BB Tryz.underlying37 rfl (by kernel_rfl)) rfl rfl rfl) rfl (S.done OB hc1 hc1m HT.out)
 have hlt:¬(s.on=true∧m.sq≤s.done):=by rw [← hon];exact hlate
 have hls:on=true→¬m.sq≤s.done:=fun h1 h2=>hlate ⟨h1,h2⟩
 have HLS:=Z9 hls
 clear hls hlate
 by_cases qf:200≤l2.length
 · have ht:T=(s,4):=by rw [HT.out];exact zpt s m HY.out hlt (by rw [hlq];exact qf)
   clear HT
   have HT:=Z9 ht
   have hf4:(200:Int)≤(l2.length:Int):=by omega
   clear ht hon hlq hlt
   cases on
   · go_upto_region 13 with fail
     clear b3 b7 m0 b10 b11 bfz hf4
     go_wp2_with (first|(refine zae rfl 37 (.tmp 3) rfl (w.heap.size) 0 rfl 37 (JL s A2 l2.length c2) S.S.bs 14 _ Tryz.underlying37 zap (show 0+14≤14 by decide) (JL s A2 l2.length c2).toArray (by rfl) rfl ?_)|(refine zaf rfl 37 (.tmp 6) (.tmp 64) rfl (w.heap.size+1+1) 0 rfl 37 Z14 S.S.br (JL s A2 l2.length c2) rfl zap (show 0+14≤14 by decide) rfl (JL s A2 l2.length c2) rfl ?_;intro WB BB OB)|fail)
     exact bodyPost_ret (v := .tuple #[JV s A2 l2.length c2, .slice A1 l1.length c1, .int .u8 4, .int .u8 0]) (zbl Tryz.results64 rfl (run_loadVar_row (P:=Tryz.prog) _ _ _ _ _ _ _ BB Tryz.underlying37 rfl (by kernel_rfl)) rfl rfl rfl) rfl (S.done OB hc1 hc1m HT.out)
   · have hls:=HLS.out rfl
     go_upto_region 13 with fail
     clear b3 b7 m0 b10 b11 bfz hf4
     go_wp2_with (first|(refine zae rfl 37 (.tmp 3) rfl (w.heap.size) 0 rfl 37 (JL s A2 l2.length c2) S.S.bs 14 _ Tryz.underlying37 zap (show 0+14≤14 by decide) (JL s A2 l2.length c2).toArray (by rfl) rfl ?_)|(refine zaf rfl 37 (.tmp 6) (.tmp 64) rfl (w.heap.size+1+1) 0 rfl 37 Z14 S.S.br (JL s A2 l2.length c2) rfl zap (show 0+14≤14 by decide) rfl (JL s A2 l2.length c2) rfl ?_;intro WB BB OB)|fail)
     exact bodyPost_ret (v := .tuple #[JV s A2 l2.length c2, .slice A1 l1.length c1, .int .u8 4, .int .u8 0]) (zbl Tryz.results64 rfl (run_loadVar_row (P:=Tryz.prog) _ _ _ _ _ _ _ BB Tryz.underlying37 rfl (by kernel_rfl)) rfl rfl rfl) rfl (S.done OB hc1 hc1m HT.out)
 have ht:T=tailT (Jb.meas s m) m now:=by rw [HT.out];exact zld s m now HI.out.nw HY.out hlt (by rw [hlq];exact qf)
 clear HT
 have HT:=Z9 ht
 have hf4:(l2.length:Int)<(200:Int):=by omega
 clear ht hon hlq hlt
 cases on
 · go_upto_region 14 with fail
   refine zan (by assumption) ?_
   exact znd S hc1 hc1m HI.out HM.out hm9 HY.out HT.out _ (Fr.mk rfl ⟨rfl,rfl,rfl,rfl,rfl,trivial⟩)
 · have hls:=HLS.out rfl
   go_upto_region 14 with fail
   refine zan (by assumption) ?_
   exact znd S hc1 hc1m HI.out HM.out hm9 HY.out HT.out _ (Fr.mk rfl ⟨rfl,rfl,rfl,rfl,rfl,trivial⟩)
structure PB0 (w W:World) (s:Jb.Jt) (A:Option Addr) (n c:Nat) (m:Jb.Md) (MA:Option Addr) (mc:Nat):Prop where
 bs:Blk W w.heap.size 37 (JL s A n c).toArray
 bm:Blk W (w.heap.size+1) 183 (ML m MA m.pl.length mc).toArray
 br:Blk W (w.heap.size+1+1) 37 Z14.toArray
 u:Bel w W
theorem PB0.later {w W W':World} {s:Jb.Jt} {A:Option Addr} {n c:Nat} {m:Jb.Md} {MA:Option Addr} {mc:Nat} (h:PB0 w W s A n c m MA mc) (hb:Below W.heap.size W W'):PB0 w W' s A n c m MA mc:=⟨h.bs.later hb,h.bm.later hb,h.br.later hb,h.u.later hb⟩
def RunX (X:Jb.Jt) (D:List Jb.Wt) (w:World) (e:Ending) (w':World):Prop :=
 ∃ (A1:Option Addr) (c1:Nat) (l1:List TW) (A2:Option Addr) (c2:Nat) (l2:List TW) (B:Nat),e = .returned (.tuple #[JV X A2 l2.length c2, .slice A1 l1.length c1])∧l1.map TW.w=D∧l2.map TW.w=X.q∧WtsIn w' w.heap.size B A1 l1∧QOwn w' B A2 l2.length c2 l2∧w.heap.size≤B∧B≤w'.heap.size∧(l1.length≤c1∧c1≤maxLen)∧Below w.heap.size w w'
theorem PutP.of {T:Jb.Jt×Int} {D:List Jb.Wt} {s:Jb.Jt} {now:Int} {m:Jb.Md} {w w':World} {e:Ending} (h:PutP T D w e w') (hp:Jb.put s now m=(T.1,D,T.2,0)):JPutW s now m w e w':=by
 obtain ⟨A1,c1,l1,A2,c2,l2,rfl,h1,h2,h3⟩:=h
 exact ⟨A1,c1,l1,A2,c2,l2,by rw [hp],by rw [hp];exact h1,by rw [hp];exact h2,h3⟩
theorem ztp (s:Jb.Jt) (A:Option Addr) (l:List TW) (c:Nat) (now:Int) (m:Jb.Md) (MA:Option Addr) (mc:Nat) (w:World) (hq:l.map TW.w=s.q) (hl:l.length≤100000) (hcap:l.length≤c) (hcm:c≤maxLen) (hA:Wts w w.heap.size A l) (hK:∀ a∈l,I64 a.w.m.sq) (hm9:m.pl.length≤100000) (hMI:IntsAt w w.heap.size .u8 MA m.pl) (r:Int) (hr:r=Jb.chk s now (decide m.ok)) (hr0:¬r=0):Calls Tryz.prog 64 #[.agg #[.int .i64 s.least, .int .i64 s.most, .int .i64 s.now, .bool s.on, .int .i64 s.zero, .int .i64 s.first, .int .i64 s.high, .int .i64 s.done, .int .i64 s.spread, .int .i64 s.trans, .slice A l.length c, .int .i64 s.late, .int .i64 s.twice, .int .i64 s.played], .int .i64 now, .agg #[.int .i64 m.sq, .int .i64 m.ti, .bool m.mrk, .int .u8 m.ty, .slice MA m.pl.length mc]] w (JPutW s now m w):=by
 have hput:Jb.put s now m=(Jb.Jt.none,[],0,r):=by unfold Jb.put;rw [← hr,if_neg hr0]
 have HPUT:=Z9 hput
 clear hput
 have S:PB0 w (((w.alloc (.cells #[.int .i64 s.least, .int .i64 s.most, .int .i64 s.now, .bool s.on, .int .i64 s.zero, .int .i64 s.first, .int .i64 s.high, .int .i64 s.done, .int .i64 s.spread, .int .i64 s.trans, .slice A l.length c, .int .i64 s.late, .int .i64 s.twice, .int .i64 s.played] 37)).alloc (.cells #[.int .i64 m.sq, .int .i64 m.ti, .bool m.mrk, .int .u8 m.ty, .slice MA m.pl.length mc] 183)).alloc (.cells Z14.toArray 37)) s A l.length c m MA mc:=⟨((Blk.new w _ _).push _).push _,(Blk.new1 _ _ _ _).push _,Blk.new2 _ _ _ _ _,(((Bel.refl w).push _).push _).push _⟩
 have k1:=Z9 fun (W:World) (hW:Bel w W)=>zfe s.least s.most s.now s.on s.zero s.first s.high s.done s.spread s.trans A l l.length c s.late s.twice s.played now m.sq m.ti m.mrk m.ty MA m.pl.length mc W rfl hl ((hA.below hW).more hW.size) hK (decide m.ok) rfl r (by rw [hq];exact hr)
 have hne:(r != 0)=true:=by simpa using hr0
 clear hr hA hMI hK hcap hcm hr0
 go_enter Tryz.func64,Tryz.ntmps64
 go_upto_region 1 with fail
 change Code.wp _ _ _ _ (((w.alloc (.cells #[.int .i64 s.least, .int .i64 s.most, .int .i64 s.now, .bool s.on, .int .i64 s.zero, .int .i64 s.first, .int .i64 s.high, .int .i64 s.done, .int .i64 s.spread, .int .i64 s.trans, .slice A l.length c, .int .i64 s.late, .int .i64 s.twice, .int .i64 s.played] 37)).alloc (.cells #[.int .i64 m.sq, .int .i64 m.ti, .bool m.mrk, .int .u8 m.ty, .slice MA m.pl.length mc] 183)).alloc (.cells Z14.toArray 37))
 generalize ((w.alloc _).alloc _).alloc _=W0 at S ⊢
 go_wp2_with (first|(refine zae rfl 37 (.tmp 3) rfl (w.heap.size) 0 rfl 37 (JL s A l.length c) S.bs 14 _ Tryz.underlying37 zap (show 0+14≤14 by decide) #[.int .i64 s.least, .int .i64 s.most, .int .i64 s.now, .bool s.on, .int .i64 s.zero, .int .i64 s.first, .int .i64 s.high, .int .i64 s.done, .int .i64 s.spread, .int .i64 s.trans, .slice A l.length c, .int .i64 s.late, .int .i64 s.twice, .int .i64 s.played] (by rfl) rfl ?_)|(refine zae rfl 183 (.tmp 5) rfl (w.heap.size+1) 0 rfl 183 (ML m MA m.pl.length mc) S.bm 5 _ Tryz.underlying183 zhe (show 0+5≤5 by decide) #[.int .i64 m.sq, .int .i64 m.ti, .bool m.mrk, .int .u8 m.ty, .slice MA m.pl.length mc] (by rfl) rfl ?_)|fail)
 refine (k1.out _ S.u).mono ?_
 rintro e w1 ⟨rfl,hb1⟩
 replace S:=S.later hb1
 clear hb1 k1
 go_wp2_with (first|(refine zaf rfl 37 (.tmp 6) (.tmp 23) rfl (w.heap.size+1+1) 0 rfl 37 Z14 S.br Z14 rfl zap (show 0+14≤14 by decide) rfl Z14 rfl ?_;intro WB BB OB)|fail)
 exact bodyPost_ret (v := .tuple #[JV Jb.Jt.none none 0 0, .slice none 0 0, .int .u8 0, .int .u8 r]) (zbl Tryz.results64 rfl (run_loadVar_row (P:=Tryz.prog) _ _ _ _ _ _ _ BB Tryz.underlying37 rfl (by kernel_rfl)) rfl rfl rfl) rfl ⟨none,0,[],none,0,[],by rw [HPUT.out];rfl,by rw [HPUT.out];rfl,by rw [HPUT.out];rfl,WtsIn.empty,WtsIn.empty,Nat.le_refl _,Nat.zero_le _,OB.bel S.u (by omega),Nat.le_refl _,Nat.zero_le _⟩
theorem zql (s:Jb.Jt) (A:Option Addr) (l:List TW) (c:Nat) (now:Int) (m:Jb.Md) (MA:Option Addr) (mc:Nat) (w:World) (hq:l.map TW.w=s.q) (hl:l.length≤100000) (hcap:l.length≤c) (hcm:c≤maxLen) (hA:Wts w w.heap.size A l) (hK:∀ a∈l,I64 a.w.m.sq) (hm9:m.pl.length≤100000) (hMI:IntsAt w w.heap.size .u8 MA m.pl) (hr:Jb.chk s now (decide m.ok)=0):Calls Tryz.prog 64 #[.agg #[.int .i64 s.least, .int .i64 s.most, .int .i64 s.now, .bool s.on, .int .i64 s.zero, .int .i64 s.first, .int .i64 s.high, .int .i64 s.done, .int .i64 s.spread, .int .i64 s.trans, .slice A l.length c, .int .i64 s.late, .int .i64 s.twice, .int .i64 s.played], .int .i64 now, .agg #[.int .i64 m.sq, .int .i64 m.ti, .bool m.mrk, .int .u8 m.ty, .slice MA m.pl.length mc]] w (PutP (Jb.put0 (Jb.run0 s now) m) (Jb.due now s.q) w):=by
 have S:PB0 w (((w.alloc (.cells #[.int .i64 s.least, .int .i64 s.most, .int .i64 s.now, .bool s.on, .int .i64 s.zero, .int .i64 s.first, .int .i64 s.high, .int .i64 s.done, .int .i64 s.spread, .int .i64 s.trans, .slice A l.length c, .int .i64 s.late, .int .i64 s.twice, .int .i64 s.played] 37)).alloc (.cells #[.int .i64 m.sq, .int .i64 m.ti, .bool m.mrk, .int .u8 m.ty, .slice MA m.pl.length mc] 183)).alloc (.cells Z14.toArray 37)) s A l.length c m MA mc:=⟨((Blk.new w _ _).push _).push _,(Blk.new1 _ _ _ _).push _,Blk.new2 _ _ _ _ _,(((Bel.refl w).push _).push _).push _⟩
 have k1:=Z9 fun (W:World) (hW:Bel w W)=>zfe s.least s.most s.now s.on s.zero s.first s.high s.done s.spread s.trans A l l.length c s.late s.twice s.played now m.sq m.ti m.mrk m.ty MA m.pl.length mc W rfl hl ((hA.below hW).more hW.size) hK (decide m.ok) rfl 0 (by rw [hq];exact hr.symm)
 obtain ⟨hok,hnow,hfm,hlt⟩:=zkr hr
 have hmk:m.ok:=decide_eq_true_iff.1 hfm
 have hpf:=zpr s m now hok hmk hlt hnow
 obtain ⟨hl2,hpl⟩:=zks (l:=l) hok hq
 have k2:=fun (W:World) (hW:Bel w W)=>zpn s.least s.most s.now s.on s.zero s.first s.high s.done s.spread s.trans A l l.length c s.late s.twice s.played now W rfl hl2 hcap hcm W.heap.size (Nat.le_refl _) ((hA.below hW).more hW.size) (fun a ha=>Nat.le_trans (hpl a ha) (by omega)) (by have:=hok.2.2.1.2.2;omega)
 have k3:∀ (W:World),Bel w W→Calls Tryz.prog 93 #[.agg #[.int .i64 s.least, .int .i64 s.most, .int .i64 s.now, .bool s.on, .int .i64 s.zero, .int .i64 s.first, .int .i64 s.high, .int .i64 s.done, .int .i64 s.spread, .int .i64 s.trans, .slice A l.length c, .int .i64 s.late, .int .i64 s.twice, .int .i64 s.played], .int .i64 now] W (RunX (Jb.run0 s now) (Jb.due now s.q) W):=fun W hW=>by
  have h:=k2 W hW
  rw [hq] at h
  exact h
 unfold RunX at k3
 clear k2
 have k2:=Z9 k3
 clear k3
 have I0:∀ l2:List TW,PI (Jb.run0 s now) m now l2:=fun l2=>by
  obtain ⟨⟨⟨a0,a1⟩,⟨a2,a3⟩,⟨a4,a5⟩,⟨a6,a7⟩,_,_,a8,a9⟩,cc,⟨⟨d0,d1⟩,⟨d2,d3⟩,_⟩,_⟩:=hok
  obtain ⟨_,⟨g0,g1⟩,_⟩:=hmk
  exact ⟨rfl,Int.le_trans a0 hlt,hnow,g0,g1,d0,d1,d2,d3,a8,a9,a4,a5,cc,hpf.2.2,hpf.1.1,hpf.1.2,hpf.2.1.1,hpf.2.1.2⟩
 have HI:=Z9 I0
 have HMI:=Z9 hMI
 generalize Jb.run0 s now=X at *
 generalize Jb.due now s.q=D at *
 clear hr hA hMI hK hcap hcm hok hnow hmk hlt hfm hpf I0 hl2 hpl
 go_enter Tryz.func64,Tryz.ntmps64
 go_upto_region 1 with fail
 change Code.wp _ _ _ _ (((w.alloc (.cells #[.int .i64 s.least, .int .i64 s.most, .int .i64 s.now, .bool s.on, .int .i64 s.zero, .int .i64 s.first, .int .i64 s.high, .int .i64 s.done, .int .i64 s.spread, .int .i64 s.trans, .slice A l.length c, .int .i64 s.late, .int .i64 s.twice, .int .i64 s.played] 37)).alloc (.cells #[.int .i64 m.sq, .int .i64 m.ti, .bool m.mrk, .int .u8 m.ty, .slice MA m.pl.length mc] 183)).alloc (.cells Z14.toArray 37))
 generalize ((w.alloc _).alloc _).alloc _=W0 at S ⊢
 go_wp2_with (first|(refine zae rfl 37 (.tmp 3) rfl (w.heap.size) 0 rfl 37 (JL s A l.length c) S.bs 14 _ Tryz.underlying37 zap (show 0+14≤14 by decide) #[.int .i64 s.least, .int .i64 s.most, .int .i64 s.now, .bool s.on, .int .i64 s.zero, .int .i64 s.first, .int .i64 s.high, .int .i64 s.done, .int .i64 s.spread, .int .i64 s.trans, .slice A l.length c, .int .i64 s.late, .int .i64 s.twice, .int .i64 s.played] (by rfl) rfl ?_)|(refine zae rfl 183 (.tmp 5) rfl (w.heap.size+1) 0 rfl 183 (ML m MA m.pl.length mc) S.bm 5 _ Tryz.underlying183 zhe (show 0+5≤5 by decide) #[.int .i64 m.sq, .int .i64 m.ti, .bool m.mrk, .int .u8 m.ty, .slice MA m.pl.length mc] (by rfl) rfl ?_)|fail)
 refine (k1.out _ S.u).mono ?_
 rintro e w1 ⟨rfl,hb1⟩
 replace S:=S.later hb1
 clear hb1 k1
 go_wp2_with (first|(refine zae rfl 37 (.tmp 3) rfl (w.heap.size) 0 rfl 37 (JL s A l.length c) S.bs 14 _ Tryz.underlying37 zap (show 0+14≤14 by decide) #[.int .i64 s.least, .int .i64 s.most, .int .i64 s.now, .bool s.on, .int .i64 s.zero, .int .i64 s.first, .int .i64 s.high, .int .i64 s.done, .int .i64 s.spread, .int .i64 s.trans, .slice A l.length c, .int .i64 s.late, .int .i64 s.twice, .int .i64 s.played] (by rfl) rfl ?_)|fail)
 refine (k2.out _ S.u).mono ?_
 rintro e w2 ⟨A1,c1,l1,A2,c2,l2,B,rfl,hm1,hm2,hw1,hq2,hB1,hB2,hca,qb⟩
 subst hm1
 have hs1:=S.br.lt
 have HS:=Z9 (And.intro hw1 hq2)
 replace S:=S.later qb
 clear qb k2 hw1 hq2
 unfold JV
 go_upto_region 5 with (first|(refine zaf rfl 37 (.tmp 3) (.tmp 29) rfl (w.heap.size) 0 rfl 37 (JL s A l.length c) S.bs (JL X A2 l2.length c2) rfl zap (show 0+14≤14 by decide) rfl (JL X A2 l2.length c2) rfl ?_;intro WB BB OB)|fail)
 have hs2:=OB.2
 have S2:PN w WB w1.heap.size B X m MA mc A1 l1 A2 c2 l2:=⟨⟨BB,OB.blk S.bm (by omega),OB.blk S.br (by omega),OB.bel S.u (Nat.le_refl _),HS.out.1.keep fun p g1 g2=>OB.cell (by omega),HS.out.2.onlyB OB (by omega),hs1,hB1,by omega⟩,hm2⟩
 refine zan (by assumption) ?_
 exact zwa S2 hca.1 hca.2 (HI.out _) HMI.out hm9 rfl _ (Fr.mk rfl ⟨rfl,rfl,rfl,rfl,rfl,trivial⟩)
theorem zqm (s:Jb.Jt) (A:Option Addr) (l:List TW) (n c:Nat) (now:Int) (m:Jb.Md) (MA:Option Addr) (mn mc:Nat) (w:World) (hq:l.map TW.w=s.q) (hn:l.length=n) (hl:n≤100000) (hcap:n≤c) (hcm:c≤maxLen) (hA:Wts w w.heap.size A l) (hK:∀ a∈l,I64 a.w.m.sq) (hmn:m.pl.length=mn) (hm9:mn≤100000) (hMI:IntsAt w w.heap.size .u8 MA m.pl):Calls Tryz.prog 64 #[.agg #[.int .i64 s.least, .int .i64 s.most, .int .i64 s.now, .bool s.on, .int .i64 s.zero, .int .i64 s.first, .int .i64 s.high, .int .i64 s.done, .int .i64 s.spread, .int .i64 s.trans, .slice A n c, .int .i64 s.late, .int .i64 s.twice, .int .i64 s.played], .int .i64 now, .agg #[.int .i64 m.sq, .int .i64 m.ti, .bool m.mrk, .int .u8 m.ty, .slice MA mn mc]] w (JPutW s now m w):=by
 subst hn
 subst hmn
 by_cases hr0:Jb.chk s now (decide m.ok)=0
 · exact (zql s A l c now m MA mc w hq hl hcap hcm hA hK hm9 hMI hr0).mono fun e w' h=>h.of (by unfold Jb.put;rw [if_pos hr0])
 · exact ztp s A l c now m MA mc w hq hl hcap hcm hA hK hm9 hMI _ rfl hr0
theorem zqn (s:Jb.Jt) (A:Option Addr) (l:List TW) (n c:Nat) (now:Int) (w:World) (hq:l.map TW.w=s.q) (hn:l.length=n) (hl:n≤100000) (hcap:n≤c) (hcm:c≤maxLen) (hA:Wts w w.heap.size A l) (hK:∀ a∈l,I64 a.w.m.sq):Calls Tryz.prog 87 #[.agg #[.int .i64 s.least, .int .i64 s.most, .int .i64 s.now, .bool s.on, .int .i64 s.zero, .int .i64 s.first, .int .i64 s.high, .int .i64 s.done, .int .i64 s.spread, .int .i64 s.trans, .slice A n c, .int .i64 s.late, .int .i64 s.twice, .int .i64 s.played], .int .i64 now] w (JRunW s now w):=by
 obtain ⟨le,mo,nw,on,ze,fi,hi,dn,sp,tr,q,la,tw,pd⟩:=s
 simp only at hq ⊢
 subst hq
 exact zsj le mo nw on ze fi hi dn sp tr A l n c la tw pd now w hn hl hcap hcm hA hK
theorem zkf (s:Jb.Jt) (A:Option Addr) (l:List TW) (n c:Nat) (w:World) (hq:l.map TW.w=s.q) (hn:l.length=n) (hl:n≤100000) (hA:Wts w w.heap.size A l) (hK:∀ a∈l,I64 a.w.m.sq) (v:Bool) (hv:v=Jb.valid s):Calls Tryz.prog 80 #[.agg #[.int .i64 s.least, .int .i64 s.most, .int .i64 s.now, .bool s.on, .int .i64 s.zero, .int .i64 s.first, .int .i64 s.high, .int .i64 s.done, .int .i64 s.spread, .int .i64 s.trans, .slice A n c, .int .i64 s.late, .int .i64 s.twice, .int .i64 s.played]] w fun e w'=>e = .returned (.bool v)∧Below w.heap.size w w':=by
 obtain ⟨le,mo,nw,on,ze,fi,hi,dn,sp,tr,q,la,tw,pd⟩:=s
 simp only at hq ⊢
 subst hq
 exact zif le mo nw on ze fi hi dn sp tr A l n c la tw pd w hn hl hA hK v hv
def NewR (l m:Int) (w:World) (e:Ending) (w':World):Prop:=e = .returned (.tuple #[JV (Jb.new l m).1 none 0 0, .int .u8 (Jb.new l m).2])∧Below w.heap.size w w'
theorem ztq (l m:Int) (w:World):Calls Tryz.prog 21 #[.agg #[.int .i64 l, .int .i64 m]] w (NewR l m w):=by
 obtain ⟨cv,hcv⟩:∃ cv,cv=decide (Jb.cfg l m):=⟨_,rfl⟩
 have k1:=Z9 fun W=>zfr l m W cv hcv
 have HC:=Z9 hcv
 clear hcv
 have U0:=Z9 (((Bel.refl w).push (.cells #[.int .i64 l, .int .i64 m] 34)).push (.cells #[.int .i64 0, .int .i64 0, .int .i64 0, .bool false, .int .i64 0, .int .i64 0, .int .i64 0, .int .i64 0, .int .i64 0, .int .i64 0, .slice none 0 0, .int .i64 0, .int .i64 0, .int .i64 0] 37))
 have BC:=Z9 ((Blk.new w 34 #[.int .i64 l, .int .i64 m]).push (.cells #[.int .i64 0, .int .i64 0, .int .i64 0, .bool false, .int .i64 0, .int .i64 0, .int .i64 0, .int .i64 0, .int .i64 0, .int .i64 0, .slice none 0 0, .int .i64 0, .int .i64 0, .int .i64 0] 37))
 have BR:=Z9 (Blk.new1 w (.cells #[.int .i64 l, .int .i64 m] 34) 37 #[.int .i64 0, .int .i64 0, .int .i64 0, .bool false, .int .i64 0, .int .i64 0, .int .i64 0, .int .i64 0, .int .i64 0, .int .i64 0, .slice none 0 0, .int .i64 0, .int .i64 0, .int .i64 0])
 cases cv
 · go_enter Tryz.func21,Tryz.ntmps21
   go_wp2_with fail
   refine (k1.out _).mono ?_
   rintro e w1 ⟨rfl,hb1⟩
   have U1:=Z9 (U0.out.later hb1)
   have BC1:=Z9 (BC.out.later hb1)
   have BR1:=Z9 (BR.out.later hb1)
   clear hb1
   have c0:=(BC1.out).at 0 _ rfl
   have c1:=(BC1.out).at 1 _ rfl
   have r0:=(BR1.out).at 0 _ rfl
   have r1:=(BR1.out).at 1 _ rfl
   have r2:=(BR1.out).at 2 _ rfl
   have r3:=(BR1.out).at 3 _ rfl
   have r4:=(BR1.out).at 4 _ rfl
   have r5:=(BR1.out).at 5 _ rfl
   have r6:=(BR1.out).at 6 _ rfl
   have r7:=(BR1.out).at 7 _ rfl
   have r8:=(BR1.out).at 8 _ rfl
   have r9:=(BR1.out).at 9 _ rfl
   have r10:=(BR1.out).at 10 _ rfl
   have r11:=(BR1.out).at 11 _ rfl
   have r12:=(BR1.out).at 12 _ rfl
   have r13:=(BR1.out).at 13 _ rfl
   have rfz:=BR1.out.frozen
   have hs1:=BR1.out.lt
   go_wp2_with fail
   have BF:=Blk.setRow BR1.out [.int .i64 0, .int .i64 0, .int .i64 0, .bool false, .int .i64 0, .int .i64 0, .int .i64 0, .int .i64 0, .int .i64 0, .int .i64 0, .slice none 0 0, .int .i64 0, .int .i64 0, .int .i64 0] rfl
   have UF:=below_setRow (g:=w.heap.size+1) (by omega) [.int .i64 0, .int .i64 0, .int .i64 0, .bool false, .int .i64 0, .int .i64 0, .int .i64 0, .int .i64 0, .int .i64 0, .int .i64 0, .slice none 0 0, .int .i64 0, .int .i64 0, .int .i64 0] _ 0 U1.out
   simp only [setRow,Nat.zero_add,Nat.reduceAdd] at BF UF
   have hn:Jb.new l m=(Jb.Jt.none,3):=by unfold Jb.new;exact if_neg (by have h9:=HC.out;rw [eq_comm,decide_eq_false_iff_not] at h9;exact h9)
   exact bodyPost_ret (v := .tuple #[.agg (List.toArray [.int .i64 0, .int .i64 0, .int .i64 0, .bool false, .int .i64 0, .int .i64 0, .int .i64 0, .int .i64 0, .int .i64 0, .int .i64 0, .slice none 0 0, .int .i64 0, .int .i64 0, .int .i64 0]), .int .u8 3]) (zei Tryz.results21 rfl (run_loadVar_row (P:=Tryz.prog) _ _ _ _ _ _ _ BF Tryz.underlying37 rfl (by kernel_rfl)) rfl) rfl ⟨by rw [hn];rfl,UF⟩
 · go_enter Tryz.func21,Tryz.ntmps21
   go_wp2_with fail
   refine (k1.out _).mono ?_
   rintro e w1 ⟨rfl,hb1⟩
   have U1:=Z9 (U0.out.later hb1)
   have BC1:=Z9 (BC.out.later hb1)
   have BR1:=Z9 (BR.out.later hb1)
   clear hb1
   have c0:=(BC1.out).at 0 _ rfl
   have c1:=(BC1.out).at 1 _ rfl
   have r0:=(BR1.out).at 0 _ rfl
   have r1:=(BR1.out).at 1 _ rfl
   have r2:=(BR1.out).at 2 _ rfl
   have r3:=(BR1.out).at 3 _ rfl
   have r4:=(BR1.out).at 4 _ rfl
   have r5:=(BR1.out).at 5 _ rfl
   have r6:=(BR1.out).at 6 _ rfl
   have r7:=(BR1.out).at 7 _ rfl
   have r8:=(BR1.out).at 8 _ rfl
   have r9:=(BR1.out).at 9 _ rfl
   have r10:=(BR1.out).at 10 _ rfl
   have r11:=(BR1.out).at 11 _ rfl
   have r12:=(BR1.out).at 12 _ rfl
   have r13:=(BR1.out).at 13 _ rfl
   have rfz:=BR1.out.frozen
   have hs1:=BR1.out.lt
   go_wp2_with fail
   have BF:=Blk.setRow BR1.out [.int .i64 l, .int .i64 m, .int .i64 0, .bool false, .int .i64 0, .int .i64 0, .int .i64 (-1), .int .i64 (-1), .int .i64 0, .int .i64 0, .slice none 0 0, .int .i64 0, .int .i64 0, .int .i64 0] rfl
   have UF:=below_setRow (g:=w.heap.size+1) (by omega) [.int .i64 l, .int .i64 m, .int .i64 0, .bool false, .int .i64 0, .int .i64 0, .int .i64 (-1), .int .i64 (-1), .int .i64 0, .int .i64 0, .slice none 0 0, .int .i64 0, .int .i64 0, .int .i64 0] _ 0 U1.out
   simp only [setRow,Nat.zero_add,Nat.reduceAdd] at BF UF
   have hn:Jb.new l m=(⟨l,m,0,false,0,0, -1, -1,0,0,[],0,0,0⟩,0):=by unfold Jb.new;exact if_pos (by have h9:=HC.out;rw [eq_comm,decide_eq_true_iff] at h9;exact h9)
   exact bodyPost_ret (v := .tuple #[.agg (List.toArray [.int .i64 l, .int .i64 m, .int .i64 0, .bool false, .int .i64 0, .int .i64 0, .int .i64 (-1), .int .i64 (-1), .int .i64 0, .int .i64 0, .slice none 0 0, .int .i64 0, .int .i64 0, .int .i64 0]), .int .u8 0]) (zei Tryz.results21 rfl (run_loadVar_row (P:=Tryz.prog) _ _ _ _ _ _ _ BF Tryz.underlying37 rfl (by kernel_rfl)) rfl) rfl ⟨by rw [hn];rfl,UF⟩
theorem zne (v i:Int) (w:World):Calls Tryz.prog 68 #[.agg #[.int .i64 v, .int .i64 i]] w fun e w'=>e = .returned (.bool (Dlt.valid v i))∧Below w.heap.size w w':=by
 refine (zhv v i w).mono ?_
 rintro e w' ⟨rfl,rfl⟩
 exact ⟨rfl,(Below.refl _ _).alloc (Nat.le_refl _) _⟩
theorem rel2 (s:Ev.Snd):((Ev.release s).2==2) = !s.valid:=by
 unfold Ev.release
 cases s.valid
 · rfl
 · cases s.on<;>rfl
theorem zle {p:Sb.Pt} (h1:true=speechB p.codec) (h2:true=Dlt.valid p.cv p.ci) (h3:true=Jb.valid p.jt) (h4:true=p.tn.valid):p.valid=decide p.near:=by
 unfold Sb.Pt.valid
 rw [← h1,← h2,← h3,← h4];rfl
theorem zft (p:Sb.Pt) (hw:p.wf) (A:Option Addr) (l:List TW) (n c:Nat) (X:Array Value) (hX:X=PA p A n c) (w:World) (hq:l.map TW.w=p.jt.q) (hn:l.length=n) (hl:n≤100000) (hA:Wts w w.heap.size A l) (hK:∀ a∈l,I64 a.w.m.sq) (v:Bool) (hv:v=p.valid):Calls Tryz.prog 37 #[.agg X] w fun e w'=>e = .returned (.bool v)∧Below w.heap.size w w':=by
 have PB0:=Z9 (PB.new w X hX)
 have U0:=Z9 ((Bel.refl w).push (.cells X 45))
 have HA:=Z9 (hA.push (.cells X 45))
 have HV:=Z9 hv
 obtain ⟨v1,hv1⟩:∃ v,v=speechB p.codec:=⟨_,rfl⟩
 obtain ⟨v2,hv2⟩:∃ v,v=Dlt.valid p.cv p.ci:=⟨_,rfl⟩
 obtain ⟨v3,hv3⟩:∃ v,v=Jb.valid p.jt:=⟨_,rfl⟩
 obtain ⟨v4,hv4⟩:∃ v,v=p.tn.valid:=⟨_,rfl⟩
 have k1:=Z9 fun W=>zdi p.codec W hw.codec.1 hw.codec.2
 have k2:=Z9 fun W=>zne p.cv p.ci W
 have k3:=Z9 fun (W:World) hW=>zkf p.jt A l n c W hq hn hl hW hK v3 hv3
 have k4:∀ W,Calls Tryz.prog 81 #[.agg #[.bool p.tn.on, .int .u8 p.tn.code, .int .u8 p.tn.vol, .int .u32 p.tn.start, .int .i64 p.tn.len, .int .i64 p.tn.ends]] W fun e w'=>e = .returned (.tuple #[.agg (Ev.release p.tn).1.row, .int .u8 (Ev.release p.tn).2])∧Below W.heap.size W w':=fun W=>zjv p.tn.on p.tn.code p.tn.vol p.tn.start p.tn.len p.tn.ends W
 have h4:=rel2 p.tn
 rw [← hv4] at h4
 generalize (Ev.release p.tn).1=s4 at k4
 generalize (Ev.release p.tn).2=r4 at k4 h4
 simp only [Ev.Snd.row] at k4
 replace k4:=Z9 k4
 have HR:=Z9 (fun h1 h2 h3 h4 => @zle p h1 h2 h3 h4)
 rw [← hv1] at k1
 rw [← hv2] at k2
 have H1:=Z9 hv1
 have H2:=Z9 hv2
 have H3:=Z9 hv3
 have H5:=Z9 hv4
 clear hX hA hv hK hq hv1 hv2 hv3 hv4
 go_enter Tryz.func37,Tryz.ntmps37
 go_upto_region 1 with fail
 obtain ⟨W,hW⟩:∃ W,W=w.alloc (Obj.cells X 45):=⟨_,rfl⟩
 rw [← hW] at PB0 U0 HA ⊢
 clear hW
 obtain ⟨g,hg⟩:∃ g,g=w.heap.size:=⟨_,rfl⟩
 rw [← hg] at PB0 ⊢
 clear hg
 have c0:=PB0.out.cell 0 _ rfl
 go_wp2_with fail
 refine (k1.out _).mono ?_
 rintro e w1 ⟨rfl,hb1⟩
 replace U0:=Z9 (U0.out.later hb1)
 replace PB0:=Z9 (PB0.out.later hb1)
 replace HA:=Z9 (HA.out.later hb1)
 clear hb1 c0
 cases v1
 · obtain rfl:v=false:=by rw [HV.out];unfold Sb.Pt.valid;rw [← H1.out];rfl
   go_wp2_with fail
   go_ret
   exact ⟨rfl,U0.out⟩
 obtain ⟨x6,x7⟩:=PB0.out.cd
 go_wp2_with fail
 refine (k2.out _).mono ?_
 rintro e w2 ⟨rfl,hb1⟩
 replace U0:=Z9 (U0.out.later hb1)
 replace PB0:=Z9 (PB0.out.later hb1)
 replace HA:=Z9 (HA.out.later hb1)
 clear hb1 x6 x7
 cases v2
 · obtain rfl:v=false:=by rw [HV.out];unfold Sb.Pt.valid;rw [← H2.out];simp
   go_wp2_with fail
   go_ret
   exact ⟨rfl,U0.out⟩
 obtain ⟨x14,x15,x16,x17,x18,x19,x20,x21,x22,x23,x24,x25,x26,x27⟩:=PB0.out.jt
 go_wp2_with fail
 refine (k3.out _ HA.out).mono ?_
 rintro e w3 ⟨rfl,hb1⟩
 replace U0:=Z9 (U0.out.later hb1)
 replace PB0:=Z9 (PB0.out.later hb1)
 clear hb1 HA x14 x15 x16 x17 x18 x19 x20 x21 x22 x23 x24 x25 x26 x27
 cases v3
 · obtain rfl:v=false:=by rw [HV.out];unfold Sb.Pt.valid;rw [← H3.out];simp
   go_wp2_with fail
   go_ret
   exact ⟨rfl,U0.out⟩
 obtain ⟨x8,x9,x10,x11,x12,x13⟩:=PB0.out.tn
 go_wp2_with fail
 refine (k4.out _).mono ?_
 rintro e w4 ⟨rfl,hb1⟩
 replace U0:=Z9 (U0.out.later hb1)
 replace PB0:=Z9 (PB0.out.later hb1)
 clear hb1 x8 x9 x10 x11 x12 x13
 cases v4
 · obtain rfl:v=false:=by rw [HV.out];unfold Sb.Pt.valid;rw [← H5.out];simp
   replace h4:(r4==2)=true:=h4
   go_wp2_with fail
   go_ret
   exact ⟨rfl,U0.out.push _⟩
 replace h4:(r4==2)=false:=h4
 have HV2:Hid (v=decide p.near):=Z9 (by rw [HV.out];exact HR.out H1.out H2.out H3.out H5.out)
 obtain ⟨x28,x29,x30⟩:=PB0.out.tk
 have x31:=PB0.out.cell 31 _ rfl
 have hlt:=Blk.lt PB0.out
 go_upto_region 7 with fail
 by_cases t0:0≤p.tk.high
 rotate_left
 · obtain rfl:v=false:=by rw [HV2.out,decide_eq_false_iff_not];unfold Sb.Pt.near;omega
   have d0:decide (0≤p.tk.high)=false:=decide_eq_false t0
   replace t0:=Int.not_le.1 t0
   go_wp2_with fail
   go_ret
   exact ⟨rfl,(U0.out.push _).push _⟩
 by_cases t1:p.tk.high≤140737488355328
 rotate_left
 · obtain rfl:v=false:=by rw [HV2.out,decide_eq_false_iff_not];unfold Sb.Pt.near;omega
   have d1:decide (p.tk.high≤140737488355328)=false:=decide_eq_false t1
   replace t1:=Int.not_le.1 t1
   go_wp2_with fail
   go_ret
   exact ⟨rfl,(U0.out.push _).push _⟩
 by_cases t2 : -1≤p.tk.jump
 rotate_left
 · obtain rfl:v=false:=by rw [HV2.out,decide_eq_false_iff_not];unfold Sb.Pt.near;omega
   have d2:decide (-1≤p.tk.jump)=false:=decide_eq_false t2
   replace t2:=Int.not_le.1 t2
   go_wp2_with fail
   go_ret
   exact ⟨rfl,(U0.out.push _).push _⟩
 by_cases t3:p.tk.jump≤65535
 rotate_left
 · obtain rfl:v=false:=by rw [HV2.out,decide_eq_false_iff_not];unfold Sb.Pt.near;omega
   have d3:decide (p.tk.jump≤65535)=false:=decide_eq_false t3
   replace t3:=Int.not_le.1 t3
   go_wp2_with fail
   go_ret
   exact ⟨rfl,(U0.out.push _).push _⟩
 by_cases t4 : -140737488355328≤p.ht
 rotate_left
 · obtain rfl:v=false:=by rw [HV2.out,decide_eq_false_iff_not];unfold Sb.Pt.near;omega
   have d4:decide (-140737488355328≤p.ht)=false:=decide_eq_false t4
   replace t4:=Int.not_le.1 t4
   go_wp2_with fail
   go_ret
   exact ⟨rfl,(U0.out.push _).push _⟩
 by_cases t5:p.ht≤140737488355328
 rotate_left
 · obtain rfl:v=false:=by rw [HV2.out,decide_eq_false_iff_not];unfold Sb.Pt.near;omega
   have d5:decide (p.ht≤140737488355328)=false:=decide_eq_false t5
   replace t5:=Int.not_le.1 t5
   go_wp2_with fail
   go_ret
   exact ⟨rfl,(U0.out.push _).push _⟩
 obtain rfl:v=true:=by rw [HV2.out,decide_eq_true_iff];unfold Sb.Pt.near;omega
 go_wp2_with fail
 go_ret
 exact ⟨rfl,(U0.out.push _).push _⟩
end Go.Proofs.YtbcgnddpkiemoaaGreat
namespace Go.Proofs.YtbcgnddpkiemoaaGreat
open Go.RowKit
theorem zat {P:Program} {ops:Array Oper} {o:Oper} {a:Act} {S:World→Prop} (hgd:o.guard=none) (ty:TypeId) (x:Operand) (ho:o.op = .load ty x) (g i:Nat) (hx:a.eval x = .pointer (some ⟨g,i,none⟩)) (t:TypeId) (cs:List Value) (hg:∀ w,S w→Blk w g t cs.toArray) (n:Nat) (d:TypeDesc) (hu:P.underlying ty=some d) (hi:(P.info? ty).map (·.size)=some n) (hn:i+n≤cs.length) (vs:Array Value) (hv:(partS cs i n).toArray=vs) (hd:aggT d=true):YieldsIf P ops S o (.agg vs) a:=by
 subst hv
 refine Or.inl ⟨by simp [Region.wanted,hgd],fun w hS => ?_⟩
 unfold execOp
 simp only [ho,hx,Instr.loadAt,Instr.sureAddr,Sem.run_bind,Sem.run_pure,Result.andThen_ok,zcf (hg w hS) i n hd hu hi hn]
theorem zal {P:Program} {ops:Array Oper} {o:Oper} {a:Act} {w:World} {K:Act→World→Prop} {Q:Exit→Act→World→Prop} {E:Prop} (hgd:o.guard=none) (ty:TypeId) (x y:Operand) (ho:o.op = .store ty x y) (g i:Nat) (hx:a.eval x = .pointer (some ⟨g,i,none⟩)) (t:TypeId) (cs:List Value) (hg:Blk w g t cs.toArray) (vs:List Value) (hy:a.eval y = .agg vs.toArray) (hi:(P.info? ty).map (·.size)=some vs.length) (hn:i+vs.length≤cs.length) (h1:vs.all (·.oneCell')=true) (cs':List Value) (hc:overS cs i vs=cs')
 (h:∀ W,Blk W g t cs'.toArray→OnlyB g w W→K (a.put o.dst undef) W):if Region.wanted o (yielded ops a.tmps)=true then Oper.wp P o a w K Q else E:=by
 subst hc
 rw [if_pos (by simp [Region.wanted,hgd])]
 unfold Oper.wp execOp
 simp only [ho,hx,hy,Instr.storeAt,Instr.sureAddr,Sem.run_bind,Sem.run_pure,Result.andThen_ok,zby hg i vs hi hn h1]
 unfold Oper.upon
 exact h _ (setRow_heap w g _ _ t _ hg) (OnlyB.setRow w g _)
theorem Blk.dr {W:World} {g:Nat} {t:TypeId} {cs:Array Value} (h:Blk W g t cs):Blk W.drew g t cs:=h
end Go.Proofs.YtbcgnddpkiemoaaGreat
namespace Go.Proofs.YtbcgnddpkiemoaaGreat
attribute [local go_sem ↓] zab zac
attribute [local go_sem] zaa zad
open Go.RowKit
theorem zcs (p:Sb.Pt) (hw:p.wf) (A:Option Addr) (l:List TW) (n c:Nat) (X:Array Value) (hX:X=PA p A n c) (w:World) (hq:l.map TW.w=p.jt.q) (hn:l.length=n) (hl:n≤100000) (hA:Wts w w.heap.size A l) (hK:∀ a∈l,I64 a.w.m.sq) (now:Int):Calls Tryz.prog 50 #[.agg X, .int .i64 now] w fun e w'=>e = .returned (.int .u8 (Sb.chkT p now))∧Below w.heap.size w w':=by
 have PB0:=Z9 (PB.new w X hX)
 have U0:=Z9 ((Bel.refl w).push (.cells X 45))
 have HA:=Z9 (hA.push (.cells X 45))
 obtain ⟨v,hv⟩:∃ v,v=p.valid:=⟨_,rfl⟩
 have k1:=Z9 fun (W:World) hW=>zft p hw A l n c (PA p A n c) rfl W hq hn hl hW hK v hv
 obtain ⟨R,hR⟩:∃ R,R=Sb.chkT p now:=⟨_,rfl⟩
 rw [← hR]
 unfold Sb.chkT at hR
 rw [← hv] at hR
 have HR:=Z9 hR
 clear hX hA hK hq hv hR
 go_enter Tryz.func50,Tryz.ntmps50
 go_upto_region 1 with fail
 obtain ⟨W,hW⟩:∃ W,W=w.alloc (Obj.cells X 45):=⟨_,rfl⟩
 rw [← hW] at PB0 U0 HA ⊢
 clear hW
 obtain ⟨g,hg⟩:∃ g,g=w.heap.size:=⟨_,rfl⟩
 rw [← hg] at PB0 ⊢
 clear hg
 go_wp2_with (first|fail|(refine zae rfl 45 (.tmp 2) rfl (g) 0 rfl 45 (PL p A n c) PB0.out 48 _ Tryz.underlying45 zai (show 0+48≤48 by decide) (PA p A n c) (by rfl) rfl ?_))
 refine (k1.out _ HA.out).mono ?_
 rintro e w1 ⟨rfl,hb1⟩
 replace U0:=Z9 (U0.out.later hb1)
 replace PB0:=Z9 (PB0.out.later hb1)
 clear hb1
 have x16:=PB0.out.jt.2.2.1
 cases v
 · obtain rfl:R=2:=by rw [HR.out];simp
   go_wp2_with fail
   go_ret
   exact ⟨rfl,U0.out⟩
 by_cases h1:281474976710656<now
 · obtain rfl:R=2:=by rw [HR.out,if_pos (Or.inr h1)]
   go_wp2_with fail
   go_ret
   exact ⟨rfl,U0.out⟩
 have hno:¬(true=false∨281474976710656<now):=fun h=>h.elim (fun h=>by cases h) h1
 by_cases h2:now<p.jt.now
 · obtain rfl:R=9:=by rw [HR.out,if_neg hno,if_pos h2]
   clear hno
   go_wp2_with fail
   go_ret
   exact ⟨rfl,U0.out⟩
 obtain rfl:R=0:=by rw [HR.out,if_neg hno,if_neg h2]
 clear hno
 go_wp2_with fail
 go_ret
 exact ⟨rfl,U0.out⟩
end Go.Proofs.YtbcgnddpkiemoaaGreat
namespace Go.Proofs.YtbcgnddpkiemoaaGreat
open Go.RowKit
structure TS where
 s:Sb.Sd
 S:Option Addr
 c:Nat
def TS.row (a:TS):List Value:=[.int .i64 a.s.at_, .slice a.S a.s.zs.length a.c, .slice none 0 0]
def Sds (w:World) (n:Nat) (A:Option Addr) (l:List TS):Prop:=RowsAt w n 3 TS.row A l∧∀ a∈l,IntsAt w n .i16 a.S a.s.zs
section
variable {w w':World} {n:Nat} {A:Option Addr} {l:List TS}
theorem Sds.nil:Sds w n A []:=⟨RowsAt.nil,fun _ h=>by cases h⟩
theorem Sds.keep (h:Sds w n A l) (hk:∀ p:Addr,p.block<n→w'.cell? p=w.cell? p):Sds w' n A l:=⟨h.1.keep hk,fun a ha=>(h.2 a ha).keep hk⟩
theorem Sds.more {m:Nat} (h:Sds w n A l) (hm:n≤m):Sds w m A l:=⟨h.1.more hm,fun a ha=>(h.2 a ha).more hm⟩
theorem Sds.later (h:Sds w w.heap.size A l) (hb:Below w.heap.size w w'):Sds w' w'.heap.size A l:=(h.keep fun _ hp=>hb.cell hp).more hb.size
theorem Sds.push (h:Sds w w.heap.size A l) (o:Obj):Sds (w.alloc o) (w.alloc o).heap.size A l:=(h.keep fun p hp=>World.cell?_alloc_lt w o p hp).more (by simp)
end
theorem zkg {w:World} {n:Nat} {A:Option Addr} {l:List TS} (h:RowsAt w n 3 TS.row A l) {k:Nat} {a:TS} (ha:l[k]? = some a):∃ b off,A=some ⟨b,off,none⟩∧b<n ∧
 w.cell? ⟨b,off+k*3,none⟩=some (.int .i64 a.s.at_)∧w.cell? ⟨b,off+k*3+1,none⟩=some (.slice a.S a.s.zs.length a.c)∧w.cell? ⟨b,off+k*3+2,none⟩=some (.slice none 0 0):=by
 obtain ⟨b,off,rfl,hb,hc⟩:=h (by have:=(List.getElem?_eq_some_iff.1 ha).1;omega)
 exact ⟨b,off,rfl,hb,hc k a ha 0 _ rfl,hc k a ha 1 _ rfl,hc k a ha 2 _ rfl⟩
structure SOwn (w:World) (base:Nat) (A:Option Addr) (n c:Nat) (l:List TS):Prop where
 len:l.length=n
 own:Owns w base 64 3 A n c (l.flatMap TS.row)
 pay:∀ a∈l,IntsAt w w.heap.size .i16 a.S a.s.zs
 far:∀ a∈l,0<a.s.zs.length→∀ b off,a.S=some ⟨b,off,none⟩→some b≠ownB A
 new:∀ a∈l,0<a.s.zs.length→∀ b off,a.S=some ⟨b,off,none⟩→base≤b
theorem SOwn.nil {w:World} {base:Nat} : SOwn w base none 0 0 []:=⟨rfl,Owns.nil,(fun _ h=>by cases h),(fun _ h=>by cases h),(fun _ h=>by cases h)⟩
theorem SOwn.below {w w':World} {base n c:Nat} {A:Option Addr} {l:List TS} (h:SOwn w base A n c l) (hb:Below w.heap.size w w'):SOwn w' base A n c l :=
 ⟨h.len,h.own.below hb,fun a ha=>(h.pay a ha).later hb,h.far,h.new⟩
theorem SOwn.step {wr v1 v2 wn:World} {base k c cn:Nat} {A An:Option Addr} {l:List TS} {a:TS} (h:SOwn wr base A k c l) (hbs:base≤wr.heap.size) (hb:Below wr.heap.size wr v1) (hb2:Below v1.heap.size v1 v2) (hg:v2.grownBy wn (ownB A))
 (qo:Owns wn base 64 3 An (k+1) cn (l.flatMap TS.row++a.row)) (hat:ownB An=ownB A∨∀ g,ownB An=some g→v2.heap.size≤g) (hI:IntsNew wr.heap.size v1 .i16 a.S a.s.zs):SOwn wn base An (k+1) cn (l ++ [a]):=by
 have s1:=hb.size
 have s2:=hb2.size
 have s3:=hg.size
 have hA:∀ g,ownB A=some g→g<wr.heap.size:=fun g hg'=>(h.own.block g hg').2
 have key:∀ (x:TS),IntsAt v2 v2.heap.size .i16 x.S x.s.zs→(0<x.s.zs.length→∀ b off,x.S=some ⟨b,off,none⟩→some b≠ownB A)→IntsAt wn wn.heap.size .i16 x.S x.s.zs:=by
  intro x hx hf h0
  obtain ⟨b,off,e,hlt,hc⟩:=hx h0
  exact ⟨b,off,e,by omega,fun i hi=>hg.cell (hc i hi) (hf h0 b off e)⟩
 have farN:∀ b off,0<a.s.zs.length→a.S=some ⟨b,off,none⟩→wr.heap.size≤b∧b<v1.heap.size:=by
  intro b off h0 e
  refine ⟨hI.2 h0 b off e,?_⟩
  obtain ⟨b',off',e',hlt,_⟩:=hI.1 h0
  rw [e] at e'
  injection e' with e'
  injection e' with e1 _
  omega
 have farO:∀ x∈l,∀ b off,0<x.s.zs.length→x.S=some ⟨b,off,none⟩→b<wr.heap.size:=by
  intro x hx b off h0 e
  obtain ⟨b',off',e',hlt,_⟩:=h.pay x hx h0
  rw [e] at e'
  injection e' with e'
  injection e' with e1 _
  omega
 refine ⟨by simp [h.len],by rw [List.flatMap_append];simpa using qo,fun x hx => ?_,fun x hx h0 b off e => ?_,fun x hx h0 b off e => ?_⟩
 · rcases List.mem_append.1 hx with hx|hx
   · exact key x (((h.pay x hx).later hb).later hb2) (h.far x hx)
   · obtain rfl:=List.mem_singleton.1 hx
     refine key x (hI.1.later hb2) (fun h0 b off e he => ?_)
     have:=farN b off h0 e
     have:=hA b he.symm
     omega
 · rcases List.mem_append.1 hx with hx|hx
   · rcases hat with e2|e2
     · rw [e2];exact h.far x hx h0 b off e
     · intro he
       have:=farO x hx b off h0 e
       have:=e2 b he.symm
       omega
   · obtain rfl:=List.mem_singleton.1 hx
     have:=farN b off h0 e
     rcases hat with e2|e2
     · rw [e2]
       intro he
       have:=hA b he.symm
       omega
     · intro he
       have:=e2 b he.symm
       omega
 · rcases List.mem_append.1 hx with hx|hx
   · exact h.new x hx h0 b off e
   · obtain rfl:=List.mem_singleton.1 hx
     have:=farN b off h0 e
     omega
theorem SOwn.sds {w:World} {base n c:Nat} {A:Option Addr} {l:List TS} (h:SOwn w base A n c l):Sds w w.heap.size A l:=by
 refine ⟨?_,h.pay⟩
 exact Owns.rows h.own h.len (fun a=>rfl)
end Go.Proofs.YtbcgnddpkiemoaaGreat
namespace Go.Proofs.YtbcgnddpkiemoaaGreat.Sb
open Go.RowKit
theorem sounds_snoc:∀ (l:List Jb.Wt) (s:Int) (a:Jb.Wt),sounds s (l ++ [a])=((dec a.m.ty a.m.pl (sounds s l).1).2,(sounds s l).2 ++ [⟨a.at_,(dec a.m.ty a.m.pl (sounds s l).1).1,[]⟩])
 | [],s,a=>rfl
 | b :: l, s, a => by
   show ((sounds (dec b.m.ty b.m.pl s).2 (l ++ [a])).1,(⟨b.at_,(dec b.m.ty b.m.pl s).1,[]⟩:Sd)::(sounds (dec b.m.ty b.m.pl s).2 (l ++ [a])).2)=_
   rw [sounds_snoc l (dec b.m.ty b.m.pl s).2 a]
   rfl
theorem take_snoc {α : Type} {l:List α} {k:Nat} {a : α} (h:l[k]? = some a):l.take (k+1)=l.take k ++ [a]:=by
 rw [List.take_add_one,h];rfl
theorem noise_seed (a s:Int) (h0:0≤s) (h1:s≤4294967295) (n:Nat):0≤Ev.seed s n∧Ev.seed s n≤4294967295:=by
 induction n with
 | zero=>exact ⟨h0,h1⟩
 | succ n ih=>unfold Ev.seed;omega
end Go.Proofs.YtbcgnddpkiemoaaGreat.Sb
namespace Go.Proofs.YtbcgnddpkiemoaaGreat
attribute [local go_sem ↓] zab zac
attribute [local go_sem] zaa zad
open Go.RowKit
theorem znf:(Tryz.prog.info? 64).map (fun i=>(i.zero,i.size,i.bytes))=some (some (.agg #[.int .i64 0, .slice none 0 0, .slice none 0 0]),3,56):=by kernel_rfl
structure Kept (base gl:Nat) (w w':World):Prop where
 os:w'.os=w.os
 tape:w'.tape=w.tape
 output:w'.output=w.output
 size:w.heap.size≤w'.heap.size
 block:∀ k,k<base→k<w.heap.size→k≠gl→w'.heap[k]? = w.heap[k]?
theorem Kept.blk {base gl g:Nat} {w w':World} {t:TypeId} {cs:Array Value} (h:Kept base gl w w') (hb:Blk w g t cs) (hg:g<base) (hne:g≠gl):Blk w' g t cs:=(h.block g hg hb.lt hne).trans hb
theorem Kept.bel {base gl:Nat} {w0 w w':World} (h:Kept base gl w w') (hb:Bel w0 w) (hs:w0.heap.size≤base) (hg:w0.heap.size≤gl):Bel w0 w' :=
 ⟨h.os.trans hb.os,h.tape.trans hb.tape,h.output.trans hb.output,Nat.le_trans hb.size h.size,fun k hk=>(h.block k (by omega) (by have:=hb.size;omega) (by omega)).trans (hb.block k hk)⟩
theorem SOwn.step2 {w wn:World} {base k c cn:Nat} {A An:Option Addr} {l:List TS} {a:TS} (h:SOwn w base A k c l) (hg:w.grownBy wn (ownB A))
 (qo:Owns wn base 64 3 An (k+1) cn (l.flatMap TS.row++a.row)) (hat:ownB An=ownB A∨∀ g,ownB An=some g→w.heap.size≤g) (hI:IntsAt w w.heap.size .i16 a.S a.s.zs)
 (hf:0<a.s.zs.length→∀ b off,a.S=some ⟨b,off,none⟩→some b≠ownB A∧base≤b):SOwn wn base An (k+1) cn (l ++ [a]):=by
 have s3:=hg.size
 have key:∀ (x:TS),IntsAt w w.heap.size .i16 x.S x.s.zs→(0<x.s.zs.length→∀ b off,x.S=some ⟨b,off,none⟩→some b≠ownB A)→IntsAt wn wn.heap.size .i16 x.S x.s.zs:=by
  intro x hx hf h0
  obtain ⟨b,off,e,hlt,hc⟩:=hx h0
  exact ⟨b,off,e,by omega,fun i hi=>hg.cell (hc i hi) (hf h0 b off e)⟩
 have low:∀ (x:TS),IntsAt w w.heap.size .i16 x.S x.s.zs→0<x.s.zs.length→∀ b off,x.S=some ⟨b,off,none⟩→b<w.heap.size:=by
  intro x hx h0 b off e
  obtain ⟨b',off',e',hlt,_⟩:=hx h0
  rw [e] at e'
  injection e' with e'
  injection e' with e1 _
  omega
 have all:∀ x∈l ++ [a],IntsAt w w.heap.size .i16 x.S x.s.zs∧(0<x.s.zs.length→∀ b off,x.S=some ⟨b,off,none⟩→some b≠ownB A∧base≤b):=by
  intro x hx
  rcases List.mem_append.1 hx with hx|hx
  · exact ⟨h.pay x hx,fun h0 b off e=>⟨h.far x hx h0 b off e,h.new x hx h0 b off e⟩⟩
  · obtain rfl:=List.mem_singleton.1 hx
    exact ⟨hI,hf⟩
 refine ⟨by simp [h.len],by rw [List.flatMap_append];simpa using qo,fun x hx=>key x (all x hx).1 (fun h0 b off e=>((all x hx).2 h0 b off e).1),fun x hx h0 b off e => ?_,fun x hx h0 b off e=>((all x hx).2 h0 b off e).2⟩
 rcases hat with e2|e2
 · rw [e2];exact ((all x hx).2 h0 b off e).1
 · intro he
   have:=low x (all x hx).1 h0 b off e
   have:=e2 b he.symm
   omega
theorem SOwn.only {w w':World} {g base n c:Nat} {A:Option Addr} {l:List TS} (h:SOwn w base A n c l) (ho:OnlyB g w w') (hg:g<base):SOwn w' base A n c l :=
 ⟨h.len,ho.owns h.own hg,fun a ha h0=>by
  obtain ⟨b,off,e,hlt,hc⟩:=h.pay a ha h0
  have:=h.new a ha h0 b off e
  exact ⟨b,off,e,by rw [ho.2];exact hlt,fun i hi=>(ho.cell (show b≠g by omega)).trans (hc i hi)⟩,h.far,h.new⟩
def AddR (base gl:Nat) (k:Nat) (ls:List TS) (a:TS) (w:World) (e:Ending) (w':World):Prop :=
 e = .returned (.tuple #[])∧∃ (A':Option Addr) (c':Nat),Blk w' gl 57 #[.slice A' (k+1) c']∧SOwn w' base A' (k+1) c' (ls ++ [a])∧Kept base gl w w'
theorem ztr (base gl:Nat) (A:Option Addr) (k c:Nat) (ls:List TS) (at_:Int) (S:Option Addr) (zs:List Int) (sc:Nat) (w:World) (HL:Blk w gl 57 #[.slice A k c]) (HO:SOwn w base A k c ls) (hk:k≤100000) (hgl:gl<base) (hbs:base≤w.heap.size) (hI:IntsAt w w.heap.size .i16 S zs) (hf:0<zs.length→∀ b off,S=some ⟨b,off,none⟩→some b≠ownB A∧base≤b):Calls Tryz.prog 102 #[.int .i64 at_, .slice S zs.length sc, .pointer (some ⟨gl,0,none⟩)] w (AddR base gl k ls ⟨⟨at_,zs,[]⟩,S,sc⟩ w):=by
 have HL:=Z9 HL
 have HO:=Z9 HO
 have HI:=Z9 hI
 have HF:=Z9 hf
 have HX:=Z9 HO.out.own
 clear hI hf
 go_enter Tryz.func102,Tryz.ntmps102
 have l0:=HL.out.at 0 _ rfl
 have lz:=HL.out.frozen 0
 have hlt:=HL.out.lt
 have h5:(k+1)*56≤140737488355328:=by omega
 have h6:k+1≤maxLen:=by unfold maxLen;omega
 have hAk:∀ g,ownB A=some g→base≤g:=fun g e=>(HX.out.block g e).1
 go_wp2_with (at_builtin;go_loud (refine zao (w0:=w) rfl _ _ 57 rfl base 64 3 56 _ Tryz.underlying57 znf rfl (by decide) A k c _ rfl HX.out [.int .i64 at_, .slice S zs.length sc, .slice none 0 0] rfl (by simp [Value.oneCell']) rfl h6 h5 hbs ?_);intro A9 c9 v1 qo hgr hat;have BY:=HL.out.grown hgr (fun e=>by have:=hAk _ e.symm;omega);have y0:=BY.at 0 _ rfl;have yz:=BY.frozen 0)
 obtain ⟨V1,hV1⟩:∃ W,W=v1.setCell ⟨gl,0,none⟩ (.slice A9 (k+1) c9):=⟨_,rfl⟩
 rw [← hV1]
 have OV:OnlyB gl v1 V1:=by rw [hV1];exact OnlyB.setCell _ _ _ _
 have BL:=Z9 (show Blk V1 gl 57 #[.slice A9 (k+1) c9] by rw [hV1];exact BY.set_ 0 _)
 have HO2:=Z9 ((HO.out.step2 (a:=⟨⟨at_,zs,[]⟩,S,sc⟩) hgr (by simpa [TS.row] using qo) hat HI.out HF.out).only OV hgl)
 have HK:=Z9 (show Kept base gl w V1 from ⟨OV.1.os.trans hgr.os,OV.1.tape.trans hgr.tape,OV.1.output.trans hgr.output,Nat.le_trans hgr.size OV.1.size,fun j h1 h2 h3=>(OV.1.block j (by have:=hgr.size;omega) (fun e=>h3 (by injection e))).trans (hgr.block j h2 (fun e=>by have:=hAk _ e.symm;omega))⟩)
 clear hV1 OV BY y0 yz qo hgr hat l0 lz HL HO HX
 go_end0
 exact ⟨rfl,A9,c9,BL.out,HO2.out,HK.out⟩
def DecodeR (d:List Int×Int) (w:World) (e:Ending) (w':World):Prop:=∃ (A':Option Addr) (c':Nat),e = .returned (.tuple #[.slice A' d.1.length c', .int .u32 d.2])∧IntsNew w.heap.size w' .i16 A' d.1∧Below w.heap.size w w'
theorem zwb (bs:List Int):(Dlt.unpR bs 160).1=Sb.decS 96 bs∧((Dlt.unpR bs 160).2.2.2≠0→(Dlt.unpR bs 160).1=[]):=by
 have e:Sb.decS 96 bs=if Sb.Dlt.fits bs 160 then Dlt.unpackL bs 160 else []:=by unfold Sb.decS;rw [if_neg (by decide),if_neg (by decide),if_pos rfl]
 rw [e]
 unfold Dlt.unpR
 rw [if_neg (by decide),show (160:Int).toNat=160 from rfl]
 by_cases h1:bs.length<4+(160+1) / 2
 · rw [if_pos h1,if_neg (fun h=>by have:=h.1;omega)]
   exact ⟨rfl,fun _=>rfl⟩
 rw [if_neg h1]
 by_cases h2:Dlt.okB bs 160
 · rw [if_pos h2,if_pos (show Sb.Dlt.fits bs 160 from h2)]
   exact ⟨rfl,fun h=>absurd rfl h⟩
 · rw [if_neg h2,if_neg (show ¬Sb.Dlt.fits bs 160 from h2)]
   exact ⟨rfl,fun _=>rfl⟩
theorem zng (A:Option Addr) (bs:List Int) (c:Nat) (seed:Int) (w:World) (hA:IntsAt w w.heap.size .u8 A bs) (hz:Within 0 255 bs) (h8:bs.length≤8000) (h1:bs.length≠1):Calls Tryz.prog 103 #[.int .u8 13, .slice A bs.length c, .int .u32 seed] w (DecodeR ([],seed) w):=by
 have hl1:¬(bs.length:Int)=1:=by omega
 clear hA hz
 go_enter Tryz.func103,Tryz.ntmps103
 go_wp2_with fail
 go_ret2
 exact ⟨none,0,rfl,IntsNew.nil,Below.refl _ _⟩
theorem znh (A:Option Addr) (bs:List Int) (c:Nat) (seed:Int) (w:World) (hA:IntsAt w w.heap.size .u8 A bs) (hz:Within 0 255 bs) (h8:bs.length≤8000) (h1:bs.length=1) (s0:0≤seed) (s1:seed≤4294967295):Calls Tryz.prog 103 #[.int .u8 13, .slice A bs.length c, .int .u32 seed] w (DecodeR ((Ev.noise (bs.getD 0 0) seed 160).1,(Ev.noise (bs.getD 0 0) seed 160).2.1) w):=by
 obtain ⟨x,rfl⟩:∃ x,bs=[x]:=by
  match bs,h1 with
  | [x],_=>exact ⟨x,rfl⟩
 obtain ⟨x0,x1⟩:=hz x (by simp)
 obtain ⟨b,off,rfl,hbB,qc⟩:=hA (by simp)
 have c0:=qc 0 (by simp)
 have k1:=Z9 fun (W:World)=>zpw x seed W 160 x0 x1 s0 s1 (by omega)
 have e:((Ev.noise ([x].getD 0 0) seed 160).1,(Ev.noise ([x].getD 0 0) seed 160).2.1)=((List.range 160).map (fun k=>Ev.nsamp (Ev.amp (x / 6).toNat) seed k),Ev.seed seed 160):=by
  show ((Ev.noise x seed 160).1,(Ev.noise x seed 160).2.1)=_
  unfold Ev.noise
  rw [if_neg (by decide)];rfl
 rw [e]
 clear qc e hz h1
 simp only [List.getD_cons_zero,Nat.add_zero] at c0
 go_enter Tryz.func103,Tryz.ntmps103
 go_wp2_with fail
 refine (k1.out _).mono ?_
 rintro e w1 ⟨A1,c1,rfl,hI,hb1⟩
 go_wp2_with fail
 go_ret2
 exact ⟨A1,c1,by simp,hI,hb1⟩
theorem zni (A:Option Addr) (bs:List Int) (c:Nat) (seed:Int) (w:World) (hA:IntsAt w w.heap.size .u8 A bs) (hz:Within 0 255 bs) (h8:bs.length≤8000):Calls Tryz.prog 103 #[.int .u8 0, .slice A bs.length c, .int .u32 seed] w (DecodeR (bs.map Cmp.fromMuZ,seed) w):=by
 have HA:=Z9 hA
 clear hA
 go_enter Tryz.func103,Tryz.ntmps103
 go_wp2_with fail
 refine (zbc _).mono ?_
 rintro e w1 ⟨b,b1,b2,rfl,C,hb1⟩
 have kl:=(zaz C 0 (by omega) (by omega)).2
 have BL:=Z9 C.l1
 have HB:=Z9 hb1
 have IA:=Z9 ((HA.out.later hb1).push (.cells (cLaw b1).cells 148))
 rw [show cAt b1 b2 0=cLaw b1 from rfl,show speechB 0=true from rfl] at kl
 simp only [cLaw,cDel] at kl
 clear C hb1 HA
 have BL2:=Z9 (BL.out.push (.cells (cLaw b1).cells 148))
 go_wp2_with fail
 refine (zte 160 A bs c b1 _ IA.out hz h8 BL2.out).mono ?_
 rintro e w2 ⟨A1,c1,rfl,hI,hb2⟩
 have hs:=HB.out.size
 have HI:=Z9 (hI.less (m:=w.heap.size) (by rw [zar];omega))
 have U:=Z9 (((Bel.later (Bel.refl w) HB.out).push (.cells (cLaw b1).cells 148)).later hb2)
 clear hI hb2 HB
 go_wp2_with fail
 go_ret2
 exact ⟨A1,c1,by simp,HI.out,U.out⟩
theorem zqo (A:Option Addr) (bs:List Int) (c:Nat) (seed:Int) (w:World) (hA:IntsAt w w.heap.size .u8 A bs) (hz:Within 0 255 bs) (h8:bs.length≤8000):Calls Tryz.prog 103 #[.int .u8 8, .slice A bs.length c, .int .u32 seed] w (DecodeR (bs.map Cmp.fromAZ,seed) w):=by
 have HA:=Z9 hA
 clear hA
 go_enter Tryz.func103,Tryz.ntmps103
 go_wp2_with fail
 refine (zbc _).mono ?_
 rintro e w1 ⟨b,b1,b2,rfl,C,hb1⟩
 have kl:=(zaz C 8 (by omega) (by omega)).2
 have BL:=Z9 C.l2
 have HB:=Z9 hb1
 have IA:=Z9 ((HA.out.later hb1).push (.cells (cLaw b2).cells 148))
 rw [show cAt b1 b2 8=cLaw b2 from rfl,show speechB 8=true from rfl] at kl
 simp only [cLaw,cDel] at kl
 clear C hb1 HA
 have BL2:=Z9 (BL.out.push (.cells (cLaw b2).cells 148))
 go_wp2_with fail
 refine (zxo 160 A bs c b2 _ IA.out hz h8 BL2.out).mono ?_
 rintro e w2 ⟨A1,c1,rfl,hI,hb2⟩
 have hs:=HB.out.size
 have HI:=Z9 (hI.less (m:=w.heap.size) (by rw [zar];omega))
 have U:=Z9 (((Bel.later (Bel.refl w) HB.out).push (.cells (cLaw b2).cells 148)).later hb2)
 clear hI hb2 HB
 go_wp2_with fail
 go_ret2
 exact ⟨A1,c1,by simp,HI.out,U.out⟩
theorem zlf (A:Option Addr) (bs:List Int) (c:Nat) (seed:Int) (w:World) (hA:IntsAt w w.heap.size .u8 A bs) (hz:Within 0 255 bs) (h8:bs.length≤8000) (hc:bs.length≤c):Calls Tryz.prog 103 #[.int .u8 96, .slice A bs.length c, .int .u32 seed] w (DecodeR (Sb.decS 96 bs,seed) w):=by
 have HA:=Z9 hA
 clear hA
 have hm:bs.length≤maxLen:=by unfold maxLen;omega
 obtain ⟨un1,un2⟩:=zwb bs
 go_enter Tryz.func103,Tryz.ntmps103
 go_wp2_with fail
 refine (zbc _).mono ?_
 rintro e w1 ⟨b,b1,b2,rfl,C,hb1⟩
 have kl:=(zaz C 96 (by omega) (by omega)).2
 have HB:=Z9 hb1
 have IA:=Z9 ((HA.out.later hb1).push (.cells cDel.cells 148))
 rw [show cAt b1 b2 96=cDel from rfl,show speechB 96=true from rfl] at kl
 simp only [cLaw,cDel] at kl
 clear C hb1 HA
 go_wp2_with fail
 refine (zpx 160 A bs c _ IA.out hz hc hm).mono ?_
 rintro e w2 ⟨A1,c1,rfl,hI,hb2⟩
 have hs:=HB.out.size
 have HI:=Z9 (hI.less (m:=w.heap.size) (by rw [zar];omega))
 have U:=Z9 (((Bel.later (Bel.refl w) HB.out).push (.cells cDel.cells 148)).later hb2)
 clear hI hb2 HB
 generalize Dlt.unpR bs 160=R at *
 obtain ⟨R1,R2,R3,R4⟩:=R
 replace un1:R1=Sb.decS 96 bs:=un1
 subst un1
 by_cases h4:R4=0
 rotate_left
 · have e4:=Z9 (show Sb.decS 96 bs=[] from un2 h4)
   clear un2
   go_wp2_with fail
   go_ret2
   exact ⟨none,0,by rw [e4.out];rfl,by rw [e4.out];exact IntsNew.nil,U.out⟩
 subst h4
 clear un2
 go_wp2_with fail
 go_ret2
 exact ⟨A1,c1,by simp,HI.out,U.out⟩
theorem znj (A:Option Addr) (bs:List Int) (c:Nat) (seed:Int) (w:World) (hA:IntsAt w w.heap.size .u8 A bs) (hz:Within 0 255 bs) (h8:bs.length≤8000) (k:Int) (hk0:0≤k) (hk1:k≤255) (h13:¬k=13) (hs:¬(k=0∨k=8∨k=96)):Calls Tryz.prog 103 #[.int .u8 k, .slice A bs.length c, .int .u32 seed] w (DecodeR ([],seed) w):=by
 have HA:=Z9 hA
 clear hA
 go_enter Tryz.func103,Tryz.ntmps103
 go_wp2_with fail
 refine (zbc _).mono ?_
 rintro e w1 ⟨b,b1,b2,rfl,C,hb1⟩
 have kl:=(zaz C k (by omega) (by omega)).2
 have HB:=Z9 hb1
 have IA:=Z9 ((HA.out.later hb1).push (.cells cNil.cells 148))
 rw [show cAt b1 b2 k=cNil by unfold cAt;rw [if_neg (by omega),if_neg (by omega),if_neg (by omega)],zek hs] at kl
 simp only [cNil] at kl
 clear C hb1 HA
 go_wp2_with fail
 go_ret2
 exact ⟨none,0,rfl,IntsNew.nil,(Bel.later (Bel.refl w) HB.out).push _⟩
theorem zip (k:Int) (A:Option Addr) (bs:List Int) (c:Nat) (seed:Int) (w:World) (hA:IntsAt w w.heap.size .u8 A bs) (hz:Within 0 255 bs) (h8:bs.length≤8000) (hk0:0≤k) (hk1:k≤255) (s0:0≤seed) (s1:seed≤4294967295) (hc:k=96→bs.length≤c):Calls Tryz.prog 103 #[.int .u8 k, .slice A bs.length c, .int .u32 seed] w (DecodeR (Sb.dec k bs seed) w):=by
 unfold Sb.dec
 by_cases h13:k=13
 · subst h13
   rw [if_pos rfl]
   by_cases h1:bs.length=1
   · rw [if_pos h1];exact znh A bs c seed w hA hz h8 h1 s0 s1
   · rw [if_neg h1];exact zng A bs c seed w hA hz h8 h1
 rw [if_neg h13]
 by_cases h0:k=0
 · subst h0;exact zni A bs c seed w hA hz h8
 by_cases h2:k=8
 · subst h2;exact zqo A bs c seed w hA hz h8
 by_cases h3:k=96
 · subst h3;exact zlf A bs c seed w hA hz h8 (hc rfl)
 have e:Sb.decS k bs=[]:=by unfold Sb.decS;rw [if_neg h0,if_neg h2,if_neg h3]
 rw [e]
 exact znj A bs c seed w hA hz h8 k hk0 hk1 h13 (by omega)
theorem SOwn.drew {w:World} {base n c:Nat} {A:Option Addr} {l:List TS} (h:SOwn w base A n c l):SOwn w.drew base A n c l:=⟨h.len,h.own,h.pay,h.far,h.new⟩
theorem PB.set {W:World} {g:Nat} {p:Sb.Pt} {A:Option Addr} {n c:Nat} (h:PB W g p A n c) (i:Nat) (v:Value) (p':Sb.Pt) (hp:(PL p A n c).set i v=PL p' A n c):PB (W.setCell ⟨g,i,none⟩ v) g p' A n c:=by
 have:=Blk.set_ h i v
 unfold PB PA
 rw [← hp]
 unfold PA at this
 simpa using this
structure OkP (a:TW):Prop where
 t0:0≤a.w.m.ty
 t1:a.w.m.ty≤255
 z:Within 0 255 a.w.m.pl
 len:a.w.m.pl.length≤8000
 cap:a.w.m.ty=96→a.w.m.pl.length≤a.c
theorem zeb (k:Int) (pl:List Int) (s:Int) (h0:0≤s) (h1:s≤4294967295):0≤(Sb.dec k pl s).2∧(Sb.dec k pl s).2≤4294967295:=by
 unfold Sb.dec
 split
 · split
   · have e:(Ev.noise (pl.getD 0 0) s 160).2.1=Ev.seed s 160:=by unfold Ev.noise;rw [if_neg (by decide)];rfl
     show 0≤(Ev.noise (pl.getD 0 0) s 160).2.1∧(Ev.noise (pl.getD 0 0) s 160).2.1≤4294967295
     rw [e]
     exact Sb.noise_seed 0 s h0 h1 160
   · exact ⟨h0,h1⟩
 · exact ⟨h0,h1⟩
theorem zbb:∀ (l:List Jb.Wt) (s:Int),0≤s→s≤4294967295→0≤(Sb.sounds s l).1∧(Sb.sounds s l).1≤4294967295
 | [],s,h0,h1=>⟨h0,h1⟩
 | a :: l, s, h0, h1 => by
   have h:=zeb a.m.ty a.m.pl s h0 h1
   exact zbb l _ h.1 h.2
def SoundsR (p:Sb.Pt) (A:Option Addr) (n c:Nat) (l:List TW) (w:World) (e:Ending) (w':World):Prop :=
 ∃ (A':Option Addr) (c':Nat) (ls:List TS),e = .returned (.tuple #[.agg (PA { p with seed:=(Sb.sounds p.seed (l.map TW.w)).1 } A n c), .slice A' l.length c'])∧ls.map TS.s=(Sb.sounds p.seed (l.map TW.w)).2∧SOwn w' (w.heap.size+3) A' l.length c' ls∧Below w.heap.size w w'
theorem zfu (p:Sb.Pt) (s0:0≤p.seed) (s1:p.seed≤4294967295) (A:Option Addr) (n c:Nat) (X:Array Value) (hX:X=PA p A n c) (PA1:Option Addr) (l:List TW) (m pc:Nat) (w:World) (hm:l.length=m) (hml:m≤100000) (hA:Wts w w.heap.size PA1 l) (hok:∀ a∈l,OkP a):Calls Tryz.prog 65 #[.agg X, .slice PA1 m pc] w (SoundsR p A n c l w):=by
 subst hm
 have HA:=Z9 hA
 have HP:=Z9 hok
 clear hA hok
 have B0:=Z9 (((PB.new w X hX).push (.cells (PA Sb.Pt.zero none 0 0) 45)).push (.cells #[.slice none 0 0] 57))
 have B1:=Z9 ((Blk.new1 w (.cells X 45) 45 (PA Sb.Pt.zero none 0 0)).push (.cells #[.slice none 0 0] 57))
 have B2:=Z9 (Blk.new2 w (.cells X 45) (.cells (PA Sb.Pt.zero none 0 0) 45) 57 #[.slice none 0 0])
 have U0:=Z9 ((((Bel.refl w).push (.cells X 45)).push (.cells (PA Sb.Pt.zero none 0 0) 45)).push (.cells #[.slice none 0 0] 57))
 have hmf:∀ (fn:Fn) (first cap:Array Value) (w:World),(Instr.makeFunc fn first cap).run Tryz.prog w = .ok (.func fn first cap) w:=fun _ _ _ _=>rfl
 have HS0:=Z9 (show (0:Int)≤p.seed∧p.seed≤4294967295 from ⟨s0,s1⟩)
 clear hX s0 s1
 go_enter Tryz.func65,Tryz.ntmps65
 go_upto_region 2 with fail
 obtain ⟨W0,hW0⟩:∃ W,W=((w.alloc (Obj.cells X 45)).alloc (Obj.cells (PA Sb.Pt.zero none 0 0) 45)).alloc (Obj.cells #[.slice none 0 0] 57):=⟨_,rfl⟩
 change Code.wp _ _ _ _ (((w.alloc (Obj.cells X 45)).alloc (Obj.cells (PA Sb.Pt.zero none 0 0) 45)).alloc (Obj.cells #[.slice none 0 0] 57))
 rw [← hW0] at B0 B1 B2 U0 ⊢
 clear hW0
 go_upto_region 3 with fail
 go_wp2_with fail
 go_loopg [15] l.length (fun gk i wr => ∃ (k:Nat) (A':Option Addr) (c':Nat) (ls:List TS),gk+k=l.length∧i = .int .i64 k∧Hid (ls.map TS.s=(Sb.sounds p.seed ((l.map TW.w).take k)).2)∧Hid (SOwn wr (w.heap.size+3) A' k c' ls)∧Hid (PB wr w.heap.size { p with seed:=(Sb.sounds p.seed ((l.map TW.w).take k)).1 } A n c)∧Hid (Blk wr (w.heap.size+1) 45 (PA Sb.Pt.zero none 0 0))∧Hid (Blk wr (w.heap.size+1+1) 57 #[.slice A' k c'])∧Hid (Bel w wr))
 case atStart=>exact ⟨0,none,0,[],rfl,rfl,Z9 rfl,Z9 SOwn.nil,B0,B1,B2,U0⟩
 case round =>
  obtain ⟨k,A',c',ls,hgk,rfl,HL,HO,B0,B1,B2,U⟩:=hrel
  have hi0:(0:Int)≤(k:Int):=by omega
  have hbs:=B2.out.lt
  by_cases hk:k<l.length
  rotate_left
  · obtain rfl:k=l.length:=by omega
    have hi1:(l.length:Int)≤(l.length:Int):=Int.le_refl _
    rw [List.take_of_length_le (by simp)] at HL B0
    go_upto_region 10 with fail
    obtain ⟨q,hq⟩:∃ q:Sb.Pt,q = { p with seed:=(Sb.sounds p.seed (l.map TW.w)).1 } := ⟨_,rfl⟩
    rw [← hq] at B0
    have HQ:=Z9 hq
    have V1:Blk wr.drew (w.heap.size+1) 45 (PL Sb.Pt.zero none 0 0).toArray:=Blk.dr B1.out
    have VO:SOwn wr.drew (w.heap.size+3) A' l.length c' ls:=HO.out.drew
    have VU:Bel w wr.drew:=Bel.drew U.out
    clear hq
    refine wp_region_held_drew (S:=fun w'=>Blk w' w.heap.size 45 (PL q A n c).toArray∧Blk w' (w.heap.size+1+1) 57 #[.slice A' l.length c']) (by kernel_rfl) ⟨Blk.dr B0.out,Blk.dr B2.out⟩ (fun qH => ?_)
    refine tk1 (i:=0) (v := .agg (PA q A n c)) rfl (zat rfl 45 (.tmp 2) rfl w.heap.size 0 rfl 45 (PL q A n c) (fun w h=>h.1) 48 _ Tryz.underlying45 zai (Nat.le_refl 48) _ rfl rfl) qH ?_
    try simp only [ss9]
    refine tk1 (i:=1) (v := .slice A' l.length c') rfl (Or.inl ⟨by rfl,fun w h=>by have c2:=h.2.at 0 _ rfl;clear h;go_simp;try with_reducible rfl⟩) qH ?_
    try simp only [ss9]
    refine wpAnyH_ready (rs:=[2]) (by kernel_rfl) (by simp) ?_
    refine AllReadyH.cons (o:=_) rfl (fun K hK => ?_) AllReadyH.nil
    refine zal rfl 45 (.tmp 4) (.tmp 39) rfl (w.heap.size+1) 0 rfl 45 _ V1 (PL q A n c) rfl zai (Nat.le_refl 48) rfl (PL q A n c) rfl ?_
    intro WF BF OF
    refine hK.out _ _ ⟨OF.blk qH.1 (by omega),OF.blk qH.2 (by omega)⟩ (fun hHeld2 => ?_)
    clear hK K
    try simp only [ss9]
    refine tk1 (i:=3) (v := .slice A' l.length c') rfl (Or.inl ⟨by rfl,fun w _=>by go_simp;try with_reducible rfl⟩) hHeld2 ?_
    try simp only [ss9]
    refine wpAnyH_done (by kernel_rfl) ?_ _
    go_wp2_with fail
    refine bodyPost_ret (v := .tuple #[.agg (PA q A n c), .slice A' l.length c']) (zei Tryz.results65 rfl (PB.load BF) rfl) rfl ⟨A',c',ls,by rw [HQ.out],HL.out,VO.only OF (by omega),OF.bel VU (by omega)⟩
  have hi1:(k:Int)<(l.length:Int):=by omega
  obtain ⟨a,ha⟩:∃ a,l[k]? = some a:=⟨_,List.getElem?_eq_getElem hk⟩
  obtain ⟨b,off,rfl,hbB,e0,e1,e2,e3,e4,e5⟩:=zen (HA.out.1.keep (fun p hp=>U.out.cell hp)) ha
  have hpa:=HP.out a (List.mem_of_getElem? ha)
  have hia:=(HA.out.2 a (List.mem_of_getElem? ha)).keep (w':=wr) (fun p hp=>U.out.cell hp)
  have hm:(l.map TW.w)[k]? = some a.w:=by rw [List.getElem?_map,ha];rfl
  have HM:=Z9 hm
  have hsd:=zbb ((l.map TW.w).take k) p.seed HS0.out.1 HS0.out.2
  obtain ⟨⟨at0,⟨sq0,ti0,mk0,ty0,pl0⟩⟩,S0,c0⟩:=a
  obtain ⟨t0,t1,tz,tl,tc⟩:=hpa
  simp only at e0 e1 e2 e3 e4 e5 t0 t1 tz tl tc hia HM
  have hsn:Hid (Sb.sounds p.seed ((l.map TW.w).take (k+1))=((Sb.dec ty0 pl0 (Sb.sounds p.seed ((l.map TW.w).take k)).1).2,(Sb.sounds p.seed ((l.map TW.w).take k)).2 ++ [⟨at0,(Sb.dec ty0 pl0 (Sb.sounds p.seed ((l.map TW.w).take k)).1).1,[]⟩])):=Z9 (by rw [Sb.take_snoc HM.out,Sb.sounds_snoc])
  generalize Sb.sounds p.seed ((l.map TW.w).take k)=R at *
  obtain ⟨R1,R2⟩:=R
  simp only at hsd hsn HL B0
  obtain ⟨d0,d1⟩:=hsd
  have k1:=Z9 fun (W:World) hW=>zip ty0 S0 pl0 c0 R1 W hW tz tl t0 t1 d0 d1 tc
  have hds:=Z9 (zeb ty0 pl0 R1 d0 d1)
  generalize Sb.dec ty0 pl0 R1=D at *
  obtain ⟨D1,D2⟩:=D
  have IA:=Z9 (hia.more (Nat.le_trans (Nat.le_refl _) U.out.size))
  clear ha hm hia tz tl tc t0 t1
  have BX:=Z9 (Blk.new wr 220 #[.int .i64 at0, .int .i64 sq0, .int .i64 ti0, .bool mk0, .int .u8 ty0, .slice S0 pl0.length c0])
  obtain ⟨W1,hW1⟩:∃ W,W=wr.alloc (.cells #[.int .i64 at0, .int .i64 sq0, .int .i64 ti0, .bool mk0, .int .u8 ty0, .slice S0 pl0.length c0] 220):=⟨_,rfl⟩
  have BB:=Z9 (show Below wr.heap.size wr W1 by rw [hW1];exact (Below.refl _ _).alloc (Nat.le_refl _) _)
  rw [← hW1] at BX
  go_upto_region 6 with fail
  rw [← hW1]
  clear hW1 e0 e1 e2 e3 e4 e5
  replace B0:=Z9 (B0.out.later BB.out)
  replace B1:=Z9 (B1.out.later BB.out)
  replace B2:=Z9 (B2.out.later BB.out)
  replace HO:=Z9 (HO.out.below BB.out)
  replace IA:=Z9 (IA.out.later BB.out)
  replace U:=Z9 (U.out.later BB.out)
  obtain ⟨gx,hgx⟩:∃ g,g=wr.heap.size:=⟨_,rfl⟩
  rw [← hgx] at BX ⊢
  have hg3:w.heap.size+3≤gx:=by omega
  clear BB hgx
  have x4:=BX.out.at 4 _ rfl
  have x5:=BX.out.at 5 _ rfl
  have sd:=B0.out.cell 45 _ rfl
  go_wp2_with fail
  refine (k1.out _ IA.out).mono ?_
  rintro e w2 ⟨A1,c1,rfl,hI,hb2⟩
  clear x4 x5 sd
  have hfar:Hid (0<D1.length→∀ b off,A1=some ⟨b,off,none⟩→some b≠ownB A'∧w.heap.size+3≤b):=Z9 fun h0 b off e=>by
   have h1:=hI.2 h0 b off e
   have h2:=BX.out.lt
   refine ⟨fun he => ?_,by omega⟩
   have h3:=(HO.out.own.block b he.symm).2
   omega
  have HI:=Z9 hI.1
  replace B0:=Z9 (B0.out.later hb2)
  replace B1:=Z9 (B1.out.later hb2)
  replace B2:=Z9 (B2.out.later hb2)
  replace BX:=Z9 (BX.out.later hb2)
  replace HO:=Z9 (HO.out.below hb2)
  replace U:=Z9 (U.out.later hb2)
  clear hb2 hI IA
  have sd:=B0.out.cell 45 _ rfl
  have sz:=Blk.frozen B0.out 45
  go_upto_region 8 with fail
  obtain ⟨W3,hW3⟩:∃ W,W=w2.setCell ⟨w.heap.size,45,none⟩ (.int .u32 D2):=⟨_,rfl⟩
  rw [← hW3]
  have OV:OnlyB w.heap.size w2 W3:=by rw [hW3];exact OnlyB.setCell _ _ _ _
  replace B0:=Z9 (show PB W3 w.heap.size { p with seed:=D2 } A n c by rw [hW3];exact B0.out.set 45 _ _ rfl)
  replace B1:=Z9 (OV.blk B1.out (by omega))
  replace B2:=Z9 (OV.blk B2.out (by omega))
  replace BX:=Z9 (OV.blk BX.out (by omega))
  replace HO:=Z9 (HO.out.only OV (by omega))
  replace U:=Z9 (OV.bel U.out (Nat.le_refl _))
  have HI2:Hid (IntsAt W3 W3.heap.size .i16 A1 D1):=Z9 fun h0=>by
   obtain ⟨b,off,e,hlt,hc⟩:=HI.out h0
   have:=(hfar.out h0 b off e).2
   exact ⟨b,off,e,by rw [OV.2];exact hlt,fun i hi=>(OV.cell (show b≠w.heap.size by omega)).trans (hc i hi)⟩
  clear hW3 OV sd sz HI
  have x0:=BX.out.at 0 _ rfl
  have hbx:=BX.out.lt
  go_wp2_with fail
  refine (ztr (w.heap.size+3) (w.heap.size+1+1) A' k c' ls at0 A1 D1 c1 _ B2.out HO.out (by omega) (by omega) (by omega) HI2.out hfar.out).mono ?_
  rintro e w4 ⟨rfl,A4,c4,B4,O4,K4⟩
  have hB2:=Z9 B4
  have hHO:=Z9 O4
  replace B0:=Z9 (K4.blk B0.out (by omega) (by omega))
  replace B1:=Z9 (K4.blk B1.out (by omega) (by omega))
  replace U:=Z9 (K4.bel U.out (by omega) (by omega))
  clear B4 O4 K4 x0 hbx B2 HO BX
  go_wp2_with fail
  go_roundg (gk-1)
  case measure=>omega
  case rel =>
   refine ⟨k+1,A4,c4,ls ++ [⟨⟨at0,D1,[]⟩,A1,c1⟩],by omega,by go_num,Z9 ?_,hHO,?_,B1,hB2,U⟩
   · rw [hsn.out,List.map_append,HL.out];rfl
   · rw [hsn.out];exact B0
theorem WtsIn.only {W W':World} {lo hi g:Nat} {A:Option Addr} {l:List TW} (h:WtsIn W lo hi A l) (ho:OnlyB g W W') (hg:g<lo):WtsIn W' lo hi A l:=h.keep fun p hp _=>ho.cell (by omega)
theorem WtsIn.step {W W':World} {lo g:Nat} {A:Option Addr} {l:List TW} (h:WtsIn W lo W.heap.size A l) (ho:OnlyB g W W') (hg:g<lo):WtsIn W' lo W'.heap.size A l:=by rw [ho.2];exact h.only ho hg
theorem WtsIn.later {W W':World} {lo:Nat} {A:Option Addr} {l:List TW} (h:WtsIn W lo W.heap.size A l) (hb:Below W.heap.size W W'):WtsIn W' lo W'.heap.size A l:=(h.below hb (Nat.le_refl _)).more hb.size
structure OkW (a:Jb.Wt):Prop where
 t0:0≤a.m.ty
 t1:a.m.ty≤255
 z:Within 0 255 a.m.pl
 len:a.m.pl.length≤8000
theorem OkW.okP {a:TW} (h:OkW a.w) (hc:a.w.m.pl.length≤a.c):OkP a:=⟨h.t0,h.t1,h.z,h.len,fun _=>hc⟩
theorem znk {l:List TW} {q:List Jb.Wt} (hl:l.map TW.w=q) (h:∀ a∈q,OkW a) (hc:∀ a∈l,a.w.m.pl.length≤a.c):∀ a∈l,OkP a:=fun a ha=>(h a.w (by rw [← hl];exact List.mem_map_of_mem ha)).okP (hc a ha)
def PlayR (p:Sb.Pt) (now v:Int) (w:World) (e:Ending) (w':World):Prop :=
 ∃ (A':Option Addr) (n' c':Nat) (l':List TW) (SA:Option Addr) (sc m:Nat) (ls:List TS) (base mid:Nat),e = .returned (.tuple #[.agg (PA (Sb.run p now).1 A' n' c'), .int .u8 v, .slice SA m sc, .int .u8 0])∧l'.map TW.w=(Sb.run p now).1.jt.q∧l'.length=n'∧n'≤c'∧c'≤maxLen∧WtsIn w' w.heap.size mid A' l'∧mid≤base∧mid≤w'.heap.size∧ls.map TS.s=(Sb.run p now).2∧w.heap.size≤base∧SOwn w' base SA m sc ls∧Below w.heap.size w w'
theorem ziq (p:Sb.Pt) (hw:p.wf) (A:Option Addr) (l:List TW) (n c:Nat) (X:Array Value) (hX:X=PA p A n c) (w:World) (hq:l.map TW.w=p.jt.q) (hn:l.length=n) (hl:n≤100000) (hcap:n≤c) (hcm:c≤maxLen) (hA:Wts w w.heap.size A l) (hK:∀ a∈l,I64 a.w.m.sq) (now v:Int) (he:(Jb.run p.jt now).2.2=0) (hO:∀ a∈(Jb.run p.jt now).2.1,OkW a) (hm:(Jb.run p.jt now).2.1.length≤100000):Calls Tryz.prog 51 #[.agg X, .int .i64 now, .int .u8 v] w (PlayR p now v w):=by
 have B0:=Z9 ((PB.new w X hX).push (.cells (PA Sb.Pt.zero none 0 0) 45))
 have B1:=Z9 (Blk.new1 w (.cells X 45) 45 (PA Sb.Pt.zero none 0 0))
 have U0:=Z9 (((Bel.refl w).push (.cells X 45)).push (.cells (PA Sb.Pt.zero none 0 0) 45))
 have HA:=Z9 ((hA.push (.cells X 45)).push (.cells (PA Sb.Pt.zero none 0 0) 45))
 have k1:=Z9 fun (W:World) hW=>zqn p.jt A l n c now W hq hn hl hcap hcm hW hK
 have HP:Hid (PlayR p now v w=fun e w' => ∃ (A':Option Addr) (n' c':Nat) (l':List TW) (SA:Option Addr) (sc m:Nat) (ls:List TS) (base mid:Nat),e = .returned (.tuple #[.agg (PA { p with jt:=(Jb.run p.jt now).1,seed:=(Sb.sounds p.seed (Jb.run p.jt now).2.1).1 } A' n' c'), .int .u8 v, .slice SA m sc, .int .u8 0])∧l'.map TW.w=(Jb.run p.jt now).1.q∧l'.length=n'∧n'≤c'∧c'≤maxLen∧WtsIn w' w.heap.size mid A' l'∧mid≤base∧mid≤w'.heap.size∧ls.map TS.s=(Sb.sounds p.seed (Jb.run p.jt now).2.1).2∧w.heap.size≤base∧SOwn w' base SA m sc ls∧Below w.heap.size w w'):=Z9 rfl
 rw [HP.out]
 clear HP
 unfold JRunW at k1
 unfold JV at k1
 have HO:=Z9 hO
 obtain ⟨R,hR⟩:∃ R,R=Jb.run p.jt now:=⟨_,rfl⟩
 rw [← hR] at k1 HO he hm ⊢
 clear hR
 obtain ⟨R1,R2,R3⟩:=R
 obtain rfl:R3=0:=he
 have hs0:=hw.seed.1
 have hs1:=hw.seed.2
 clear hX hA hK hq hO
 go_enter Tryz.func51,Tryz.ntmps51
 go_upto_region 1 with fail
 change Code.wp _ _ _ _ ((w.alloc (Obj.cells X 45)).alloc (Obj.cells (PA Sb.Pt.zero none 0 0) 45))
 obtain ⟨W,hW⟩:∃ W,W=(w.alloc (Obj.cells X 45)).alloc (Obj.cells (PA Sb.Pt.zero none 0 0) 45):=⟨_,rfl⟩
 rw [← hW] at B0 B1 U0 HA ⊢
 clear hW
 obtain ⟨x14,x15,x16,x17,x18,x19,x20,x21,x22,x23,x24,x25,x26,x27⟩:=B0.out.jt
 have hL:=B1.out.lt
 go_wp2_with fail
 refine (k1.out _ HA.out).mono ?_
 rintro e w1 ⟨A1,c1,l1,A2,c2,l2,rfl,hl1,hl2,hW1,hW2,hc2,hm2,hb1,hc1,hm1⟩
 clear x14 x15 x16 x17 x18 x19 x20 x21 x22 x23 x24 x25 x26 x27
 replace U0:=Z9 (U0.out.later hb1)
 replace B0:=Z9 (B0.out.later hb1)
 replace B1:=Z9 (B1.out.later hb1)
 have HL1:=Z9 hl1
 have HL2:=Z9 hl2
 have HOK:=Z9 (znk hl1 HO.out hW1.cap)
 have hlen1:l1.length≤100000:=by have:=congrArg List.length hl1;simp at this hm;omega
 have BJ:=Z9 (Blk.new w1 37 (JW R1 A2 l2.length c2).toArray)
 obtain ⟨g1,hg1⟩:∃ g,g=w1.heap.size:=⟨_,rfl⟩
 have hs1':=U0.out.size
 have hb1lt:=B1.out.lt
 obtain ⟨W1,hWW⟩:∃ W,W=w1.alloc (.cells (JW R1 A2 l2.length c2).toArray 37):=⟨_,rfl⟩
 have BB:=Z9 (show Below w1.heap.size w1 W1 by rw [hWW];exact (Below.refl _ _).alloc (Nat.le_refl _) _)
 have hg1':Hid (g1=w1.heap.size):=Z9 hg1
 rw [← hg1,← hWW] at BJ
 go_upto_region 4 with fail
 rw [← hg1]
 change Code.wp _ _ _ _ (w1.alloc (Obj.cells (JW R1 A2 l2.length c2).toArray 37))
 rw [← hWW]
 replace U0:=Z9 (U0.out.later BB.out)
 replace B0:=Z9 (B0.out.later BB.out)
 replace B1:=Z9 (B1.out.later BB.out)
 have HW1:=Z9 (hW1.later BB.out)
 have HW2:=Z9 (hW2.later BB.out)
 clear hb1 hl1 hl2 hWW hg1 hW1 hW2 BB HA
 have hgl:=Blk.lt B0.out
 go_upto_region 5 with (first|(refine zae rfl 37 (.tmp 10) rfl (g1) 0 rfl 37 (JW R1 A2 l2.length c2) BJ.out 14 _ Tryz.underlying37 zbi (show 0+14≤14 by decide) ((JW R1 A2 l2.length c2).toArray) (by rfl) rfl ?_)|(refine zaf rfl 37 (.tmp 27) (.tmp 26) rfl (w.heap.size) 14 rfl 45 (PL p A n c) B0.out (JW R1 A2 l2.length c2) rfl zbi (show 14+14≤48 by decide) rfl (PL { p with jt:=R1 } A2 l2.length c2) rfl ?_;intro WF BF OF))
 obtain ⟨q1,hq1⟩:∃ q:Sb.Pt,q = { p with jt:=R1 } := ⟨_,rfl⟩
 rw [← hq1] at BF
 have hW1:=Z9 (HW1.out.step OF (by omega))
 have hW2:=Z9 (HW2.out.step OF (by omega))
 replace U0:=Z9 (OF.bel U0.out (Nat.le_refl _))
 replace B1:=Z9 (OF.blk B1.out (by omega))
 replace B0:=Z9 BF
 have k2:=Z9 fun (W:World) hW=>zfu q1 (by rw [hq1];exact hs0) (by rw [hq1];exact hs1) A2 l2.length c2 (PA q1 A2 l2.length c2) rfl A1 l1 l1.length c1 W rfl hlen1 hW HOK.out
 unfold SoundsR at k2
 rw [HL1.out] at k2
 obtain ⟨q2,hq2⟩:∃ q:Sb.Pt,q = { q1 with seed:=(Sb.sounds q1.seed R2).1 } := ⟨_,rfl⟩
 rw [← hq2] at k2
 have HQ1:=Z9 hq1
 have HQ2:=Z9 hq2
 clear hq1 hq2 BF OF HW1 HW2 BJ hs0 hs1
 go_wp2_with (first|(refine zae rfl 45 (.tmp 3) rfl (w.heap.size) 0 rfl 45 (PL q1 A2 l2.length c2) B0.out 48 _ Tryz.underlying45 zai (show 0+48≤48 by decide) (PA q1 A2 l2.length c2) (by rfl) rfl ?_)|fail)
 refine (k2.out _ hW1.out.rows).mono ?_
 rintro e w3 ⟨SA,sc,ls,rfl,hls,hso,hb3⟩
 have hbase:w.heap.size≤WF.heap.size:=U0.out.size
 replace U0:=Z9 (U0.out.later hb3)
 have B03:=Z9 (PB.later B0.out hb3)
 have B13:=Z9 (B1.out.later hb3)
 replace hW2:=Z9 (hW2.out.below hb3 (Nat.le_refl _))
 have HLS:=Z9 hls
 have HSO:=Z9 hso
 have hsz3:=hb3.size
 clear hls hso hb3 hW1 B0 B1
 go_upto_region 6 with (first|(refine zaf rfl 45 (.tmp 3) (.tmp 32) rfl (w.heap.size) 0 rfl 45 (PL q1 A2 l2.length c2) B03.out (PL q2 A2 l2.length c2) rfl zai (show 0+48≤48 by decide) rfl (PL q2 A2 l2.length c2) rfl ?_;intro WG BG OG)|fail)
 have hW3:=Z9 (hW2.out.only OG (by omega))
 have hGs:WF.heap.size≤WG.heap.size:=by rw [OG.2];exact hsz3
 have hsb:w.heap.size<WF.heap.size+3:=by omega
 replace U0:=Z9 (OG.bel U0.out (Nat.le_refl _))
 replace B13:=Z9 (OG.blk B13.out (by omega))
 replace HSO:=Z9 (HSO.out.only OG hsb)
 have HBG:=Z9 BG
 clear BG OG hW2 B03
 have hg1l:w.heap.size+1<WF.heap.size+3:=by have:=hg1'.out;omega
 go_wp2_with (first|(refine zae rfl 45 (.tmp 3) rfl (w.heap.size) 0 rfl 45 (PL q2 A2 l2.length c2) HBG.out 48 _ Tryz.underlying45 zai (show 0+48≤48 by decide) (PA q2 A2 l2.length c2) (by rfl) rfl ?_)|(refine zaf rfl 45 (.tmp 6) (.tmp 34) rfl (w.heap.size+1) 0 rfl 45 (PL Sb.Pt.zero none 0 0) B13.out (PL q2 A2 l2.length c2) rfl zai (show 0+48≤48 by decide) rfl (PL q2 A2 l2.length c2) rfl ?_;intro WH BH OH)|fail)
 have hHs:WF.heap.size≤WH.heap.size:=by rw [OH.2];exact hGs
 have hW4:=(hW3.out.only OH hL).less (lo':=w.heap.size) (by omega)
 refine bodyPost_ret (v := .tuple #[.agg (PA q2 A2 l2.length c2), .int .u8 v, .slice SA l1.length sc, .int .u8 0]) (zbl Tryz.results51 rfl (PB.load BH) rfl rfl rfl) rfl ⟨A2,l2.length,c2,l2,SA,sc,l1.length,ls,WF.heap.size+3,WF.heap.size,?_,HL2.out,rfl,hc2,hm2,hW4,by omega,hHs,?_,by omega,HSO.out.only OH hg1l,OH.bel U0.out (by omega)⟩
 · rw [HQ2.out,HQ1.out]
 · rw [HLS.out,HQ1.out]
end Go.Proofs.YtbcgnddpkiemoaaGreat
namespace Go.Proofs.YtbcgnddpkiemoaaGreat.Sb
open Go.RowKit
theorem new_src {c l m s:Int} (hs:speechB c=true) (hc:Jb.cfg l m):new c s l m=({ Pt.zero with codec:=c,src:=s,mrk:=true,jt:=(Jb.new l m).1,seed:=s }, 0):=by
 unfold new
 rw [if_neg (by rw [hs];decide),if_pos hc]
inductive SentV (c:Int) (p:Pt) (zs:List Int) (q:Pt):List Pkt→Prop where
 | none (h2:q.cv=p.cv∧q.ci=p.ci):SentV c p zs q []
 | noise (k:Pkt) (h1:k.ty=13) (h2:k.src=p.src) (z:Int) (h3:k.pl=[z]) (h4:0≤z∧z≤127):SentV c p zs q [k]
 | speech (k:Pkt) (h1:k.ty=c) (h2:k.src=p.src) (h3:k.pl=(enc c (p.cv,p.ci) zs).1):SentV c p zs q [k]
theorem SpkI.sent {c:Int} {p:Pt} {i sq:Nat} (h:SpkI c p i sq) (zs:List Int) (hz:∀ z∈zs, -32768≤z∧z≤32767):SentV c p zs (send0 p zs).1 (send0 p zs).2:=by
 have ht:¬(p.tn.on=true∨p.tn.ends≠0):=by rw [h.tn];decide
 have hc:=h.codec
 unfold send0
 rw [if_neg ht]
 split
 · split
   · have:=Ev.lev_bd zs hz
     exact .noise _ rfl rfl _ rfl (by omega)
   · exact .none ⟨rfl,rfl⟩
 · exact .speech _ hc rfl (by subst hc;rfl)
theorem LisE.startS {trip c l m s:Int} (hs:speechB c=true) (hc:Jb.cfg l m) (t0:0≤trip) (s0:0≤s) (s1:s≤4294967295):LisE l m trip (new c s l m).1 0 0 0:=by
 have h:=LisE.start (trip:=trip) hs hc t0
 rw [new_src hs hc] at h ⊢
 exact ⟨⟨h.wf.codec,⟨s0,s1⟩,h.wf.seq,h.wf.time,h.wf.below,h.wf.tvol,h.wf.tcode,h.wf.tst,⟨s0,s1⟩,h.wf.pk,h.wf.oc⟩,h.sp,h.cod,h.tn,h.tk,h.ht,h.jt,h.hi,h.now,h.hl⟩
theorem LisE.play {ls mo trip:Int} {u:Pt} {i sq:Nat} {hi:Int} (h:LisE ls mo trip u i sq hi) (hi40:i<40) (hs:sq≤i) (t0:0≤trip) (t1:trip≤65535) :
 LisE ls mo trip (run u (20*(i:Int)+trip)).1 (i+1) sq hi∧(run u (20*(i:Int)+trip)).2=(sounds u.seed (Jb.due (20*(i:Int)+trip) u.jt.q)).2∧(run u (20*(i:Int)+trip)).1.jt.q=Jb.left (20*(i:Int)+trip) u.jt.q:=by
 have hr:Jb.run u.jt (20*(i:Int)+trip)=(Jb.run0 u.jt (20*(i:Int)+trip),Jb.due (20*(i:Int)+trip) u.jt.q,0):=by
  unfold Jb.run;rw [Jb.chk_run h.jt.sm.ok h.now (by omega),if_pos rfl]
 have hE:=(h.jt.run (by omega) (20*(i:Int)+trip) h.now (by omega))
 unfold run
 rw [hr]
 refine ⟨⟨?_,h.sp,h.cod,h.tn,h.tk,h.ht,hE,h.hi,?_,h.hl⟩,rfl,rfl⟩
 · exact ⟨h.wf.codec,h.wf.src,h.wf.seq,h.wf.time,h.wf.below,h.wf.tvol,h.wf.tcode,h.wf.tst,zbb _ _ h.wf.seed,h.wf.pk,h.wf.oc⟩
 · show 20*(i:Int)+trip≤_
   push_cast;omega
theorem decS_bd (c:Int) (pl:List Int) (hz:∀ z∈pl,0≤z∧z≤255):∀ z∈decS c pl, -32768≤z∧z≤32767:=by
 unfold decS
 split
 · intro z h
   obtain ⟨x,hx,rfl⟩:=List.mem_map.1 h
   have:=Cmp.fromMu_bd x.toNat (by have:=hz x hx;omega)
   unfold Cmp.fromMuZ;omega
 split
 · intro z h
   obtain ⟨x,hx,rfl⟩:=List.mem_map.1 h
   have:=Cmp.fromA_bd x.toNat (by have:=hz x hx;omega)
   unfold Cmp.fromAZ;omega
 split
 · split
   · rename_i hk
     intro z h
     obtain ⟨j,_,rfl⟩:=List.mem_map.1 h
     have h1:=Dlt.dAt_valid (Dlt.headS pl) (Dlt.headS_valid pl 160 hk hz) pl (j+1)
     simp [Dlt.valid] at h1
     omega
   · intro z h;cases h
 · intro z h;cases h
theorem zwc (c:Int) (pl:List Int) (s:Int) (hz:∀ z∈pl,0≤z∧z≤255):∀ z∈(dec c pl s).1, -32768≤z∧z≤32767:=by
 unfold dec
 split
 · split
   · unfold Ev.noise
     rw [if_neg (by omega)]
     intro z h
     obtain ⟨j,_,rfl⟩:=List.mem_map.1 h
     have h1:=Ev.amp_bd (pl.getD 0 0 / 6).toNat
     have h2:=Ev.nsamp_bd (Ev.amp (pl.getD 0 0 / 6).toNat) s h1.1 j
     omega
   · intro z h;cases h
 · exact decS_bd c pl hz
theorem zeq:∀ (q:List Jb.Wt) (s:Int),(∀ a∈q,OkW a)→∀ d∈(sounds s q).2,∀ z∈d.zs, -32768≤z∧z≤32767
 | [],s,h,d,hd=>by cases hd
 | a :: q, s, h, d, hd => by
   rcases List.mem_cons.1 hd with e|e
   · subst e
     exact zwc a.m.ty a.m.pl s (h a List.mem_cons_self).z
   · exact zeq q _ (fun b hb=>h b (List.mem_cons_of_mem _ hb)) d e
structure Hop (c:Int) (p u:Pt) (i:Nat) (tk:Option Sd):Prop where
 ex:∃ (sq:Nat) (hi:Int),SpkI c p i sq∧LisE 20 200 0 u i sq hi
 q:F2 mQ u.jt.q tk.toList
 at_:∀ a∈u.jt.q,a.at_=20*(i:Int)∧OkW a
theorem znl {now:Int} {q:List Jb.Wt} (h:∀ a∈q,a.at_≤now):Jb.due now q=q∧Jb.left now q=[] :=
 Jb.while_all (fun w:Jb.Wt=>decide (w.at_≤now)) q fun x hx=>decide_eq_true (h x hx)
theorem Hop.start {c s:Int} (hs:speechB c=true) (s0:0≤s) (s1:s≤4294967295):Hop c (new c s 20 200).1 (new c s 20 200).1 0 none:=by
 have hc:Jb.cfg 20 200:=by decide
 have h:=(SpkI.startS hs hc s0 s1).1
 refine ⟨⟨0,0,h,LisE.startS hs hc (by decide) s0 s1⟩,by rw [h.jq];exact .nil,by rw [h.jq];intro a ha;cases ha⟩
theorem Hop.due {c:Int} {p u:Pt} {i:Nat} {tk:Option Sd} (h:Hop c p u i tk) (hi:i<40):Jb.due (20*(i:Int)) u.jt.q=u.jt.q∧Jb.left (20*(i:Int)) u.jt.q=[] :=
 znl fun a ha=>by have:=(h.at_ a ha).1;omega
theorem Hop.lis {c:Int} {p u:Pt} {i:Nat} {tk:Option Sd} (h:Hop c p u i tk) (hi:i<40):chkT u (20*(i:Int))=0∧u.wf∧u.jt.q.length≤1∧u.jt.ok∧∀ a∈u.jt.q,OkW a:=by
 obtain ⟨sq,hh,hp,hu⟩:=h.ex
 have h1:=hp.le
 refine ⟨hu.chk (by omega) _ (by omega) (by omega),hu.wf,?_,hu.jt.sm.ok,fun a ha=>(h.at_ a ha).2⟩
 have:=h.q.len
 rw [this];cases tk<;>simp
theorem Hop.spk {c:Int} {p u:Pt} {i:Nat} {tk:Option Sd} (h:Hop c p u i tk):p.valid=true∧p.wf∧p.jt.q=[]∧p.tn.on=false∧p.tn.ends=0∧speechB c=true:=by
 obtain ⟨sq,hh,hp,hu⟩:=h.ex
 exact ⟨hp.valid,hp.wf,hp.jq,by rw [hp.tn];rfl,by rw [hp.tn];rfl,hp.sp⟩
theorem Hop.step0 {c:Int} {p u:Pt} {i:Nat} {tk:Option Sd} (h:Hop c p u i tk) (hi:i<40) (zs:List Int) (hl:zs.length=160) (hz:∀ z∈zs, -32768≤z∧z≤32767) (h0:(send0 p zs).2=[]) :
 F2 mG (run u (20*(i:Int))).2 tk.toList∧(∀ d∈(run u (20*(i:Int))).2,∀ z∈d.zs, -32768≤z∧z≤32767)∧Hop c (send0 p zs).1 (run u (20*(i:Int))).1 (i+1) none:=by
 obtain ⟨sq,hh,hp,hu⟩:=h.ex
 obtain ⟨d1,d2⟩:=h.due hi
 obtain ⟨more,e1,e2,hp2,_⟩:=hp.step zs (by omega) hl hz
 rw [h0] at e1
 obtain rfl:0=more:=e1
 have:=hu.play hi hp.le (by decide) (by decide)
 rw [Int.add_zero,d1,d2] at this
 obtain ⟨a1,a2,a3⟩:=this
 refine ⟨by rw [a2];exact zdc _ _ _ h.q,by rw [a2];exact zeq _ _ (fun a ha=>(h.at_ a ha).2),⟨sq,hh,hp2,a1⟩,by rw [a3];exact .nil,by rw [a3];intro a ha;cases ha⟩
theorem Hop.step1 {c:Int} {p u:Pt} {i:Nat} {tk:Option Sd} (h:Hop c p u i tk) (hi:i<40) (zs:List Int) (hl:zs.length=160) (hz:∀ z∈zs, -32768≤z∧z≤32767) (k:Pkt) (h0:(send0 p zs).2=[k]) :
 ∃ (u':Pt) (sds:List Sd),(Pk.follow u.tk k.sq).2.2=true∧(Jb.put u.jt (20*(i:Int)) ⟨(Pk.follow u.tk k.sq).2.1,time u ⟨k.mrk,k.ty,k.sq,k.ti,k.pl⟩,k.mrk,k.ty,k.pl⟩).2.2.2=0∧recv0 u (20*(i:Int)) ⟨k.mrk,k.ty,k.sq,k.ti,k.pl⟩=(u',1,sds)∧F2 mG sds tk.toList∧(∀ d∈sds,∀ z∈d.zs, -32768≤z∧z≤32767)∧Hop c (send0 p zs).1 u' (i+1) (some ⟨20*((i+1:Nat):Int),if k.ty=13 then [] else decS c k.pl,[]⟩) ∧
  (0≤k.ty∧k.ty≤127)∧(0≤k.sq∧k.sq≤65535)∧(0≤k.ti∧k.ti≤4294967295)∧(0≤k.src∧k.src≤4294967295)∧Within 0 255 k.pl∧k.pl.length≤1500∧(speechB k.ty=true∨k.ty=13)∧(¬k.ty=13→k.ty=c∧k.pl=(enc c (p.cv,p.ci) zs).1∧(decS c k.pl).length=160):=by
 obtain ⟨sq,hh,hp,hu⟩:=h.ex
 obtain ⟨d1,d2⟩:=h.due hi
 obtain ⟨more,e1,e2,hp2,hk⟩:=hp.step zs (by omega) hl hz
 have hst:=hp.sent zs hz
 have hcv:=hp.cod
 have hsp:=hp.sp
 rw [h0] at e1 hk hst
 obtain rfl:1=more:=e1
 obtain ⟨k1,k2,k3,k4,k5⟩:=hk k (by simp)
 have hc:Jb.cfg 20 200:=by decide
 obtain ⟨u',sds,hF,hJ,hr,_,hL,hsd,hjq⟩:=hu.media hi hp.le hc (by decide) (by decide) ⟨k.mrk,k.ty,k.sq,k.ti,k.pl⟩ k1 k2 k3 k4
 rw [Int.add_zero] at hr hsd hjq hJ
 rw [d1] at hsd
 rw [d2] at hjq
 have hty:0≤k.ty∧k.ty≤255:=by rcases k3 with e|e;exact zsq e;omega
 have hle:=hp.le
 have hsr:=hp.src
 have hks:k.src=p.src:=by cases hst with
  | noise _ h1 h2 z h3 h4=>exact h2
  | speech _ h1 h2 h3=>exact h2
 have h127:k.ty≤127:=by rcases k3 with e|e;(rcases zam.1 e with e|e|e<;>omega);omega
 refine ⟨u',sds,hF,hJ,hr,by rw [hsd];exact zdc _ _ _ h.q,by rw [hsd];exact zeq _ _ (fun a ha=>(h.at_ a ha).2),⟨⟨sq+1,(sq:Int)+1,hp2,hL⟩,?_,?_⟩,⟨hty.1,h127⟩,⟨by omega,by omega⟩,⟨by omega,by omega⟩,by rw [hks];exact hsr,k5,k4,k3,fun h13 => ?_⟩
 · rw [hjq]
   refine .cons ⟨by show 20*(i:Int)+20=20*((i+1:Nat):Int);push_cast;omega,?_⟩ .nil
   cases hst with
   | noise _ h1 h2 z h3 h4=>exact .inr ⟨h1,by show k.pl.length=1;rw [h3];rfl,by rw [if_pos h1]⟩
   | speech _ h1 h2 h3 =>
     have h13:¬k.ty=13:=by rcases zam.1 hsp with e|e|e<;>omega
     refine .inl ⟨by show speechB k.ty=true;rw [h1];exact hsp,?_,?_⟩
     · rw [if_neg h13]
       show _=decS k.ty k.pl
       rw [h1]
     · rw [if_neg h13]
       show (decS c k.pl).length=160
       rw [h3]
       exact encS_len c (p.cv,p.ci) zs hsp hcv hl
 · rw [hjq]
   intro a ha
   obtain rfl:=List.mem_singleton.1 ha
   exact ⟨by show 20*(i:Int)+20=20*((i+1:Nat):Int);push_cast;omega,⟨hty.1,hty.2,k5,by show k.pl.length≤8000;omega⟩⟩
 · cases hst with
   | noise _ h1 h2 z h3 h4=>exact absurd h1 h13
   | speech _ h1 h2 h3 =>
     refine ⟨h1,h3,?_⟩
     rw [h3]
     exact encS_len c (p.cv,p.ci) zs hsp hcv hl
inductive TkK (at_:Int):Int→List Int→Option Sd→Prop where
 | none:TkK at_ 0 [] none
 | speech (zs:List Int) (h:zs.length=160):TkK at_ 1 zs (some ⟨at_,zs,[]⟩)
 | noise:TkK at_ 2 [] (some ⟨at_,[],[]⟩)
theorem TkK.snd {at_ kd:Int} {zs:List Int} {tk:Option Sd} {sds:List Sd} (h:TkK at_ kd zs tk) (hs:F2 mG sds tk.toList):(kd=0∧sds=[])∨∃ d,sds=[d]∧d.at_=at_∧d.zs.length=160∧(kd=2∨(kd=1∧d.zs=zs)):=by
 cases h with
 | none=>cases hs;exact .inl ⟨rfl,rfl⟩
 | speech zs h =>
   cases hs with
   | cons hr ht =>
     cases ht
     obtain ⟨h1,h2,h3⟩:=hr
     refine .inr ⟨_,rfl,h1,h2, .inr ⟨rfl,?_⟩⟩
     rcases h3 with h3|h3
     · replace h3:zs=[]:=h3
       rw [h3] at h;cases h
     · exact h3
 | noise =>
   cases hs with
   | cons hr ht =>
     cases ht
     exact .inr ⟨_,rfl,hr.1,hr.2.1, .inl rfl⟩
def sumA (fs:List (List Int)) (i:Nat):Int:=(fs.map fun f=>f.getD i 0).sum
def satI (x:Int):Int:=min (max x (-32768)) 32767
def mixL (fs:List (List Int)) (k:Nat):List Int:=(List.range 160).map fun i=>satI (sumA fs i-(fs.getD k []).getD i 0)
theorem mixL_len (fs:List (List Int)) (k:Nat):(mixL fs k).length=160:=by simp [mixL]
theorem mixL_bd (fs:List (List Int)) (k:Nat):∀ z∈mixL fs k, -32768≤z∧z≤32767:=by
 intro z hz
 obtain ⟨i,_,rfl⟩:=List.mem_map.1 hz
 unfold satI;omega
end Go.Proofs.YtbcgnddpkiemoaaGreat.Sb
namespace Go.Proofs.YtbcgnddpkiemoaaGreat
attribute [local go_sem ↓] zab zac
attribute [local go_sem] zaa zad
open Go.RowKit
structure TF where
 A:Option Addr
 c:Nat
 zs:List Int
def TF.row (a:TF):List Value:=[.slice a.A a.zs.length a.c]
def Frs (w:World) (n:Nat) (A:Option Addr) (l:List TF):Prop:=RowsAt w n 1 TF.row A l∧∀ a∈l,IntsAt w n .i16 a.A a.zs
structure OkF (l:List TF):Prop where
 len:l.length≤64
 z160:∀ a∈l,a.zs.length≤160
 bd:∀ a∈l,Within (-32768) 32767 a.zs
theorem zst:(Tryz.prog.info? 3).map (fun i=>(i.zero,i.size,i.bytes))=some (some (.int .i64 0),1,8):=by kernel_rfl
theorem zkh:∀ (l:List (List Int)) (j:Nat),(∀ f∈l,∀ z∈f, -32768≤z∧z≤32767) → -32768*(l.length:Int)≤Sb.sumA l j∧Sb.sumA l j≤32768*(l.length:Int)
 | [],j,h=>by simp [Sb.sumA]
 | f :: l, j, h => by
   have ih:=zkh l j fun g hg=>h g (List.mem_cons_of_mem _ hg)
   have hf : -32768≤f.getD j 0∧f.getD j 0≤32768:=by
    by_cases hj:j<f.length
    · have:=h f List.mem_cons_self (f.getD j 0) (by rw [List.getD_eq_getElem?_getD,List.getElem?_eq_getElem hj];exact List.getElem_mem hj)
      omega
    · rw [List.getD_eq_getElem?_getD,List.getElem?_eq_none (by omega)];simp
   have e:Sb.sumA (f::l) j=f.getD j 0+Sb.sumA l j:=by simp [Sb.sumA]
   rw [e,List.length_cons]
   push_cast
   omega
theorem zki (l:List (List Int)) (k j:Nat) (f:List Int) (h:l[k]? = some f):Sb.sumA (l.take (k+1)) j=Sb.sumA (l.take k) j+f.getD j 0:=by
 unfold Sb.sumA
 rw [List.take_add_one,h]
 simp
theorem zlg (A:Option Addr) (n c:Nat) (h:n≤64) (w:World):Calls Tryz.prog 66 #[.slice A n c, .int .i64 160] w fun e w'=>e = .returned (.int .u8 0)∧w'=w:=by
 have h1:(n:Int)≤64:=by omega
 go_enter Tryz.func66,Tryz.ntmps66
 go_wp2
 go_ret
 exact ⟨rfl,rfl⟩
theorem zts (x:Int) (h0 : -9223372036854775808≤x) (h1:x≤9223372036854775807) (w:World):Calls Tryz.prog 28 #[.int .i64 x] w fun e w'=>e = .returned (.int .i16 (Sb.satI x))∧w'=w:=by
 have hs:IntKind.i16.wrap (Sb.satI x)=Sb.satI x:=by
  unfold Sb.satI
  have : -32768≤min (max x (-32768)) 32767∧min (max x (-32768)) 32767≤32767:=by omega
  generalize min (max x (-32768)) 32767=y at *
  simp only [IntKind.wrap,IntKind.bits,IntKind.signed];simp;omega
 unfold Sb.satI at hs ⊢
 go_enter Tryz.func28,Tryz.ntmps28
 go_wp2
 go_ret
 exact ⟨by simp [hs],rfl⟩
def SumR (fs:List (List Int)) (w:World) (e:Ending) (w':World):Prop:=e = .returned (.tuple #[.slice (some ⟨w.heap.size,0,none⟩) 160 160, .int .u8 0])∧w'.rowIs w.heap.size 3 160 (fun j => .int .i64 (Sb.sumA fs j))∧Below w.heap.size w w'
theorem ztt (A:Option Addr) (l:List TF) (c:Nat) (w:World) (hF:Frs w w.heap.size A l) (ok:OkF l):Calls Tryz.prog 27 #[.slice A l.length c, .int .i64 160] w (SumR (l.map TF.zs) w):=by
 have hmk:=run_make_row' (P:=Tryz.prog) 118 3 (.int .i64 0) 8 Tryz.underlying118 zst rfl .i64 .i64 160 (by omega) (by omega) w
 obtain ⟨W1,hW1⟩:∃ W1,W1=w.alloc (.cells (madeCells #[.int .i64 0] 160) 3):=⟨_,rfl⟩
 have hrow:W1.rowIs w.heap.size 3 160 (fun _ => .int .i64 0):=by rw [hW1];exact World.rowIs_made w _ _ _
 have qb:Below w.heap.size w W1:=by rw [hW1];exact (Below.refl _ _).alloc (Nat.le_refl _) _
 rw [← hW1] at hmk
 change (Instr.makeSlice 118 (.int .i64 160) (.int .i64 160)).run Tryz.prog _=_ at hmk
 clear hW1
 have hl64:=ok.len
 have kc:=Z9 fun V=>zlg A l.length c hl64 V
 go_enter Tryz.func27,Tryz.ntmps27
 go_wp2_with fail
 refine (kc.out _).mono ?_
 rintro e w0 ⟨rfl,rfl⟩
 go_wp2_with fail
 go_loopw [21] (fun i wr => ∃ k:Nat,k≤l.length∧i = .int .i64 k∧Hid (wr.rowIs w0.heap.size 3 160 (fun j => .int .i64 (Sb.sumA ((l.map TF.zs).take k) j)))∧Below w0.heap.size w0 wr)
  (fun i _=>l.length-(intOf i).toNat)
 case atStart=>exact ⟨0,Nat.zero_le _,rfl,Z9 (hrow.congr (fun j _=>by simp [Sb.sumA])),qb⟩
 case round =>
  obtain ⟨k,hk,rfl,HR,hb⟩:=hrel
  clear hrow qb hmk
  obtain ⟨wo,rfl⟩:∃ wo:World,wo=wr:=⟨_,rfl⟩
  by_cases hlt:k<l.length
  · obtain ⟨a,ha⟩:∃ a,l[k]? = some a:=⟨_,List.getElem?_eq_getElem hlt⟩
    have ham:=List.mem_of_getElem? ha
    obtain ⟨b,off,rfl,hbB,qc⟩:=hF.1 (by omega)
    have hc0:=qc k a ha 0 _ rfl
    simp only [Nat.mul_one,Nat.add_zero] at hc0
    have hck:wo.cell? ⟨b,off+k,none⟩=some (.slice a.A a.zs.length a.c):=(hb.cell (p:=⟨b,off+k,none⟩) hbB).trans hc0
    have hI:=hF.2 a ham
    have h160:=ok.z160 a ham
    have hw:=ok.bd a ham
    have hst:=fun j=>zki (l.map TF.zs) k j a.zs (by rw [List.getElem?_map,ha];rfl)
    have hsb:=fun j=>zkh ((l.map TF.zs).take k) j (fun f hf=>by
     obtain ⟨a',ha',rfl⟩:=List.mem_map.1 (List.mem_of_mem_take hf)
     exact ok.bd a' ha')
    have hsl:((l.map TF.zs).take k).length≤64:=by rw [List.length_take,List.length_map];omega
    obtain ⟨S,hS⟩:∃ S,S=Sb.sumA ((l.map TF.zs).take k):=⟨_,rfl⟩
    obtain ⟨S2,hS2⟩:∃ S2,S2=Sb.sumA ((l.map TF.zs).take (k+1)):=⟨_,rfl⟩
    rw [← hS] at hsb HR
    rw [← hS,← hS2] at hst
    have hsb2:∀ j, -2097152≤S j∧S j≤2097152:=fun j=>by have:=hsb j;omega
    have HB2:=Z9 hsb2
    have HST:=Z9 hst
    have HS2:=Z9 hS2
    obtain ⟨fA,fc,fz⟩:=a
    simp only at hck hI h160 hw HST
    have HI:=Z9 hI
    have HW:=Z9 hw
    have hmn:min (160:Int) (fz.length:Int)=(fz.length:Int):=by omega
    have hi0:(0:Int)≤(k:Int):=by omega
    have hi1:(k:Int)<(l.length:Int):=by omega
    have HWO:=Z9 hb
    have hwo:=hb.size
    clear hS hS2 hst hsb hsb2 hI hw qc hc0 ham ha hsl hb
    go_wp2
    go_loopw [29] (fun i wr => ∃ m:Nat,m≤fz.length∧i = .int .i64 m∧Hid (wr.rowIs w0.heap.size 3 160 (fun j => .int .i64 (if j<m then S2 j else S j)))∧Below w0.heap.size w0 wr)
     (fun i _=>fz.length-(intOf i).toNat)
    case atStart=>exact ⟨0,Nat.zero_le _,rfl,Z9 (HR.out.congr (fun j _=>by simp)),HWO.out⟩
    case round =>
     obtain ⟨m,hm,rfl,HR2,hb2⟩:=hrel
     by_cases hlm:m<fz.length
     · obtain ⟨b2,off2,rfl,hbB2,hcell2⟩:=HI.out (by omega)
       have hcf:wr.cell? ⟨b2,off2+m,none⟩=some (.int .i16 (fz.getD m 0)):=(hb2.cell (p:=⟨b2,off2+m,none⟩) hbB2).trans (hcell2 m hlm)
       have hcs:wr.cell? ⟨w0.heap.size,m,none⟩=some (.int .i64 (S m)):=by rw [HR2.out.cell (by omega)];simp
       have hfr:=HR2.out.frozen m
       have hrl:=HR2.out.lt
       have hfb:=HW.out.at hlm
       have hsb:=HB2.out m
       have hsum:=HST.out m
       obtain ⟨F,hF'⟩:∃ F,F=fz.getD m 0:=⟨_,rfl⟩
       obtain ⟨Z,hZ⟩:∃ Z,Z=S m:=⟨_,rfl⟩
       rw [← hF'] at hcf hfb hsum
       rw [← hZ] at hcs hsb hsum
       have hw1:IntKind.i64.wrap F=F:=by simp only [IntKind.wrap,IntKind.bits,IntKind.signed];simp;omega
       have hw2:IntKind.i64.wrap (Z+F)=Z+F:=by simp only [IntKind.wrap,IntKind.bits,IntKind.signed];simp;omega
       have HSM:=Z9 hsum
       have HZ:=Z9 hZ
       have hn1:b2≠w0.heap.size:=by omega
       have hn2:w0.heap.size≠b2:=by omega
       have HB:=Z9 hb2
       have hi2:(0:Int)≤(m:Int):=by omega
       have hi3:(m:Int)<(fz.length:Int):=by omega
       have hi4:(m:Int)<(160:Int):=by omega
       obtain ⟨hfb1,hfb2⟩:=hfb
       obtain ⟨hsb1,hsb2⟩:=hsb
       clear hcell2 hF' hZ hsum hb2 hck
       go_wp2
       go_region
       go_wp2
       go_roundw
       case rel =>
        refine ⟨m+1,by omega,by go_num,?_,(HB.out.setCell (Nat.le_refl _) _).drew⟩
        refine Z9 (show World.rowIs (wr.setCell ⟨w0.heap.size,m,none⟩ (.int .i64 (Z+F))) _ _ _ _ from (HR2.out.set m _).congr fun j _ => ?_)
        by_cases e:j=m
        · subst e;simp [HSM.out]
        · simp only [e,if_false]
          by_cases e2:j<m
          · rw [if_pos e2,if_pos (by omega)]
          · rw [if_neg e2,if_neg (by omega)]
       case measure=>simp [intOf];omega
     · obtain rfl:m=fz.length:=by omega
       have HB:=Z9 hb2
       clear hb2
       go_wp2
       go_roundw
       case rel =>
        refine ⟨k+1,by omega,by go_num,?_,HB.out⟩
        rw [← HS2.out]
        refine Z9 (HR2.out.congr fun j hj => ?_)
        by_cases h:j<fz.length
        · rw [if_pos h]
        · rw [if_neg h]
          have h9:=HST.out j
          rw [List.getD_eq_getElem?_getD,List.getElem?_eq_none (by omega)] at h9
          rw [h9];simp
       case measure=>simp [intOf];omega
  · obtain rfl:k=l.length:=by omega
    have HB:=Z9 hb
    clear hb
    go_wp2
    go_ret2
    refine ⟨rfl,?_,HB.out⟩
    have h:=HR.out
    rw [List.take_of_length_le (by rw [List.length_map];exact Nat.le_refl _)] at h
    exact h
theorem zer (z:Value) (n:Nat):madeCells #[z] n=(List.replicate n z).toArray:=by
 have h:=toList_madeCells_one z n
 rw [← h]
section
variable {P:Program} {w:World} {ops:Array Oper} {rest:List Oper} {o:Oper} {a:Act} {Q:Exit→Act→World→Prop}
theorem zgp (t e ty:TypeId) (z:Value) (ht:P.underlying t=some (.slice e)) (hv:∀ w,(zeroValue e).run P w = .ok z w) (hz:z.cells = #[z]) (h1:z.oneCell'=true) (g n c:Nat) (hn:0<n) (t':TypeId) (cs:List Value) (hg:Blk w g t' cs.toArray) (hl:cs.length=n) :
 (Builtin.clear_ #[t] ty #[.slice (some ⟨g,0,none⟩) n c]).run P w = .ok (.tuple #[]) (w.setRow g (List.replicate n z).toArray):=by
 have hzc:(Builtin.zeroCells z.cells n).toList=List.replicate n z:=by
  rw [hz]
  simp [Builtin.zeroCells]
  apply List.ext_getElem
  · simp
  · intro i h1 h2
    simp [Nat.mod_one]
 have hst:=zbg (P:=P) (g:=g) (t:=t') (List.replicate n z) 0 0 cs.toArray w hg (by simp;omega) (by intro v hv';rw [List.eq_of_mem_replicate hv'];exact h1)
 have e:overS cs.toArray.toList (0+0) (List.replicate n z)=List.replicate n z:=by unfold overS;simp;omega
 rw [e] at hst
 obtain ⟨m,rfl⟩:∃ m,n=m+1:=⟨n-1,by omega⟩
 simp [Builtin.clear_,run_underlying ht,hv,hzc,hst]
theorem zdz (hgd:o.guard=none) (d s:Operand) (dT sT:TypeId) (ho:o.op = .call { callee := .builtin .copy,args := #[d,s],argTypes := #[dT,sT] }) (elem:TypeId) (hu:P.underlying dT=some (.slice elem)) (hsz:(P.info? elem).map (·.size)=some 1)
 (sp:Option Addr) (g dLen dCap sLen sCap:Nat) (hd:a.eval d = .slice (some ⟨g,0,none⟩) dLen dCap) (hs:a.eval s = .slice sp sLen sCap) (cur:List Value) (t:TypeId) (hg:Blk w g t cur.toArray) (hcl:cur.length=dLen) (cs:List Value) (hn:cs.length=sLen) (hle:sLen≤dLen)
 (hpos:0<cs.length→∃ ad,sp=some ad∧∀ j v,cs[j]? = some v→w.cell? (ad.add j)=some v) (h1:∀ v∈cs,v.oneCell'=true)
 (h:∀ W,Blk W g t (cs++cur.drop cs.length).toArray→OnlyB g w W→wpList P ops Q rest (a.put o.dst (goInt cs.length)) W):wpList P ops Q (o::rest) a w:=by
 have hmin:Nat.min sLen dLen=sLen:=Nat.min_eq_left hle
 by_cases h0:cs.length=0
 · obtain rfl:cs=[]:=List.eq_nil_of_length_eq_zero h0
   refine wpList_copy_nothing hgd d s dT sT ho elem hu hsz (some ⟨g,0,none⟩) sp dLen dCap sLen sCap hd hs (by rw [hmin];exact hn.symm) ?_
   exact h w (by simpa using hg) (OnlyB.refl w)
 · obtain ⟨ad,rfl,hsrc⟩:=hpos (by omega)
   refine wpList_copy_own hgd d s dT sT ho elem hu hsz g 0 dLen dCap ad sLen sCap hd hs cur.toArray t hg cs (by rw [hmin];exact hn) hsrc (by simp;omega) h1 ?_
   have:=h (w.setRow g (cs++cur.drop cs.length).toArray) (setRow_heap w g _ _ t _ hg) (OnlyB.setRow w g _)
   simpa using this
theorem zct (hgd:o.guard=none) (s x:Operand) (t:TypeId) (ho:o.op = .call { callee := .builtin .append,args := #[s,x],argTypes := #[t,t] })
 (e:TypeId) (bytes:Nat) (z:Value) (ht:P.underlying t=some (.slice e)) (hinfo:(P.info? e).map (fun i=>(i.zero,i.size,i.bytes))=some (some z,1,bytes)) (g n c:Nat) (hs:a.eval s = .slice (some ⟨g,0,none⟩) n c) (v:Value) (h1:v.oneCell'=true) (hx:a.eval x = .slice (some ⟨w.heap.size,0,none⟩) 1 1)
 (cur:List Value) (hg:Blk w g e cur.toArray) (hcl:cur.length=c) (hroom:n<c)
 (h:∀ W,Blk W g e (cur.take n ++ [v]++cur.drop (n+1)).toArray→OnlyB g (w.alloc (.cells #[v] e)) W→wpList P ops Q rest (a.put o.dst (.slice (some ⟨g,0,none⟩) (n+1) c)) W):wpList P ops Q (o::rest) a (w.alloc (.cells #[v] e)):=by
 obtain ⟨i,hi,hz0,hz1,hz2⟩:=info_parts hinfo
 refine wpList_plain hgd fun K hK => ?_
 have hg2:Blk (w.alloc (.cells #[v] e)) g e cur.toArray:=hg.push _
 have hrun:=run_append_room (P:=P) (w.alloc (.cells #[v] e)) t o.type e i ht hi g n c cur.toArray hg2 ⟨w.heap.size,0,none⟩ 1 1 [v] (by rw [hz1];rfl) (by
  intro j u hu
  have hc:=zgl w [v] e j
  rw [← hu,← hc]
  by_cases h0:j=0
  · subst h0;rfl
  · simp [Addr.add,h0]) (by intro u hu;obtain rfl:=List.mem_singleton.1 hu;exact h1) (by omega) (by rw [hz1];simp;omega)
 rw [hz1] at hrun
 unfold Oper.wp
 simp [execOp,ho,resolve,invoke,builtin,hs,hx,hrun,Result.andThen]
 have:=h ((w.alloc (.cells #[v] e)).setRow g (cur.take n ++ [v]++cur.drop (n+1)).toArray) (setRow_heap _ g _ _ e _ hg2) (OnlyB.setRow _ g _)
 exact hK _ _ (by simpa using this)
end
theorem zir:(Tryz.prog.info? 51).map (fun i=>(i.zero,i.size,i.bytes))=some (some (.slice none 0 0),1,24):=by kernel_rfl
theorem zwd:(Tryz.prog.info? 104).map (·.size)=some 1:=by kernel_rfl
theorem ztu (w:World):(zeroValue 104).run Tryz.prog w = .ok (.int .i16 0) w:=by kernel_rfl
structure MxS (w wr:World) (g0 gM gO n:Nat) (fs:List (List Int)) (hs:List TF):Prop where
 sums:wr.rowIs g0 3 160 (fun j => .int .i64 (Sb.sumA fs j))
 mix:Blk wr gM 51 (hs.flatMap TF.row++List.replicate (n-hs.length) (Value.slice none 0 0)).toArray
 own:∃ cur:List Value,cur.length=160∧Blk wr gO 104 cur.toArray
 val:hs.map TF.zs=(List.range hs.length).map (Sb.mixL fs)
 ints:∀ a∈hs,IntsNew (gO+1) wr .i16 a.A a.zs
 b:Below w.heap.size w wr
 o1:w.heap.size≤g0
 o2:g0<gM
 o3:gM<gO
 o4:gO<wr.heap.size
section
variable {w wr w':World} {g0 gM gO n:Nat} {fs:List (List Int)} {hs:List TF}
theorem IntsNew.onlyB {g m:Nat} {w w':World} {k:IntKind} {A:Option Addr} {zs:List Int} (h:IntsNew m w k A zs) (ho:OnlyB g w w') (hg:g<m):IntsNew m w' k A zs:=by
 refine ⟨fun h0 => ?_,h.2⟩
 obtain ⟨b,off,e,hb,hc⟩:=h.1 h0
 have h2:=h.2 h0 b off e
 exact ⟨b,off,e,by rw [ho.2];exact hb,fun i hi=>(ho.cell (p:=⟨b,off+i,none⟩) (by show b≠g;omega)).trans (hc i hi)⟩
theorem MxS.later (h:MxS w wr g0 gM gO n fs hs) (hb:Below wr.heap.size wr w'):MxS w w' g0 gM gO n fs hs:=by
 have h1:=h.o2;have h2:=h.o3;have h3:=h.o4
 obtain ⟨cur,hl,hB⟩:=h.own
 exact ⟨h.sums.of_block (hb.block _ (by omega)),h.mix.later hb,⟨cur,hl,hB.later hb⟩,h.val,fun a ha=>(h.ints a ha).later hb,h.b.trans (hb.mono h.b.size),h.o1,h.o2,h.o3,Nat.lt_of_lt_of_le h.o4 hb.size⟩
theorem MxS.setOwn (h:MxS w wr g0 gM gO n fs hs) (ho:OnlyB gO wr w') (cur:List Value) (hl:cur.length=160) (hB:Blk w' gO 104 cur.toArray):MxS w w' g0 gM gO n fs hs:=by
 have h1:=h.o1;have h2:=h.o2;have h3:=h.o3
 exact ⟨h.sums.of_block (ho.1.block g0 (by have:=h.o4;omega) (fun e=>by injection e with e;omega)),ho.blk h.mix (by omega),⟨cur,hl,hB⟩,h.val,fun a ha=>(h.ints a ha).onlyB ho (by omega),ho.below h.b h.b.size (by omega),h.o1,h.o2,h.o3,by rw [ho.2];exact h.o4⟩
theorem MxS.setMix (h:MxS w wr g0 gM gO n fs hs) (ho:OnlyB gM wr w') (a:TF) (hz:a.zs=Sb.mixL fs hs.length) (hI:IntsNew (gO+1) wr .i16 a.A a.zs) (hB:Blk w' gM 51 ((hs ++ [a]).flatMap TF.row++List.replicate (n-(hs ++ [a]).length) (Value.slice none 0 0)).toArray):MxS w w' g0 gM gO n fs (hs ++ [a]):=by
 have h1:=h.o1;have h2:=h.o2;have h3:=h.o3
 obtain ⟨cur,hl,hO⟩:=h.own
 refine ⟨h.sums.of_block (ho.1.block g0 (by have:=h.o4;omega) (fun e=>by injection e with e;omega)),hB,⟨cur,hl,ho.blk hO (by omega)⟩,?_,fun b hb => ?_,ho.below h.b h.b.size (by omega),h.o1,h.o2,h.o3,by rw [ho.2];exact h.o4⟩
 · rw [List.map_append,h.val,List.length_append,List.length_singleton,List.range_succ,List.map_append]
   simp [hz]
 · rcases List.mem_append.1 hb with hb|hb
   · exact (h.ints b hb).onlyB ho (by omega)
   · obtain rfl:=List.mem_singleton.1 hb
     exact hI.onlyB ho (by omega)
end
def MixR (fs:List (List Int)) (w:World) (e:Ending) (w':World):Prop:=∃ (gM:Nat) (hs:List TF),e = .returned (.tuple #[.slice (some ⟨gM,0,none⟩) fs.length fs.length, .int .u8 0])∧hs.map TF.zs=(List.range fs.length).map (Sb.mixL fs)∧w.heap.size≤gM∧RowsAt w' w'.heap.size 1 TF.row (some ⟨gM,0,none⟩) hs∧(∀ a∈hs,IntsNew w.heap.size w' .i16 a.A a.zs)∧Below w.heap.size w w'
theorem zfv (f:Nat→Int) (n i:Nat) (h:i<n):((List.range n).map f).getD i 0=f i:=by
 rw [List.getD_eq_getElem?_getD,List.getElem?_map,List.getElem?_range h];rfl
theorem zgq:∀ (hs:List TF),(hs.flatMap TF.row).length=hs.length
 | []=>rfl
 | a::hs=>by rw [List.flatMap_cons,List.length_append,zgq hs,List.length_cons];show 1+_=_;omega
theorem zis (hs:List TF):∀ (k:Nat) (a:TF),hs[k]? = some a→(hs.flatMap TF.row)[k]? = some (.slice a.A a.zs.length a.c):=by
 induction hs with
 | nil=>intro k a h;simp at h
 | cons b hs ih =>
   intro k a h
   cases k with
   | zero=>simp at h;subst h;rfl
   | succ k =>
     have:=ih k a (by simpa using h)
     rw [List.flatMap_cons]
     show (TF.row b++_)[k+1]? = _
     rw [List.getElem?_append_right (by show 1≤k+1;omega)]
     exact this
theorem ztv (A:Option Addr) (l:List TF) (c:Nat) (w:World) (hF:Frs w w.heap.size A l) (ok:OkF l):Calls Tryz.prog 10 #[.slice A l.length c, .int .i64 160] w (MixR (l.map TF.zs) w):=by
 have kS:=Z9 (ztt A l c w hF ok)
 have hmk:∀ V:World,(Instr.makeSlice 51 (.int .i64 160) (.int .i64 160)).run Tryz.prog V = .ok (.slice (some ⟨V.heap.size,0,none⟩) 160 160) (V.alloc (.cells (madeCells #[.int .i16 0] 160) 104)):=fun V=>run_make_row' (P:=Tryz.prog) 51 104 (.int .i16 0) 2 Tryz.underlying51 zdj rfl .i64 .i64 160 (by omega) (by omega) V
 have hl64:=ok.len
 obtain ⟨fi,hfi,hfz,hfs,hfb⟩:=info_parts zir
 have hmk2:∀ V:World,(Instr.makeSlice 55 (.int .i64 0) (.int .i64 (l.length:Int))).run Tryz.prog V = .ok (.slice (some ⟨V.heap.size,0,none⟩) 0 l.length) (V.alloc (.cells (madeCells #[.slice none 0 0] l.length) 51)):=fun V=>by
  have h:=run_make (P:=Tryz.prog) V 55 51 fi (.slice none 0 0) Tryz.underlying55 hfi hfz .i64 .i64 0 (l.length:Int) (Int.le_refl _) (by omega) (by rw [hfb];omega) (by omega)
  rw [hfs,Int.toNat_natCast,Nat.mul_one] at h
  exact h
 clear hfi hfz hfs hfb
 go_enter Tryz.func10,Tryz.ntmps10
 go_wp2_with fail
 refine kS.out.mono ?_
 rintro e w1 ⟨rfl,hrow,qb⟩
 have HROW:=Z9 hrow
 have HBEL:=Z9 qb
 have hlt1:=hrow.lt
 clear hrow qb kS
 go_upto_region 6 with fail
 have HM:=Z9 (show MxS w ((w1.alloc (.cells (madeCells #[.slice none 0 0] l.length) 51)).alloc (.cells (madeCells #[.int .i16 0] 160) 104)) w.heap.size w1.heap.size (w1.heap.size+1) l.length (l.map TF.zs) [] from by
  refine ⟨(HROW.out.alloc _).alloc _,?_,⟨List.replicate 160 (.int .i16 0),by simp,?_⟩,rfl,(fun a ha=>by cases ha),(HBEL.out.alloc HBEL.out.size _).alloc (by have:=HBEL.out.size;simp;omega) _,Nat.le_refl _,hlt1,by omega,by simp⟩
  · have h:=(Blk.new w1 51 (madeCells #[.slice none 0 0] l.length)).push (.cells (madeCells #[.int .i16 0] 160) 104)
    simp only [zer] at h ⊢
    simpa using h
  · have h:=Blk.new1 w1 (.cells (madeCells #[.slice none 0 0] l.length) 51) 104 (madeCells #[.int .i16 0] 160)
    simp only [zer] at h ⊢
    exact h)
 generalize (w1.alloc (.cells (madeCells #[.slice none 0 0] l.length) 51)).alloc (.cells (madeCells #[.int .i16 0] 160) 104)=W at HM ⊢
 obtain ⟨gM,hgM⟩:∃ g,g=w1.heap.size:=⟨_,rfl⟩
 obtain ⟨gO,hgO⟩:∃ g,g=gM+1:=⟨_,rfl⟩
 obtain ⟨g0,hg0⟩:∃ g,g=w.heap.size:=⟨_,rfl⟩
 rw [← hgM] at HM ⊢
 rw [← hgO] at HM ⊢
 have HG0:=Z9 hg0
 replace HM:Hid (MxS w W g0 gM gO l.length (l.map TF.zs) []):=by rw [hg0];exact HM
 rw [← hg0]
 clear HROW HBEL hlt1 hgM hgO hg0 hmk2
 go_wp2_with fail
 go_loopw [8,30] (fun s8 s30 wr => ∃ (k:Nat) (hs:List TF),hs.length=k∧k≤l.length∧s30 = .int .i64 k∧s8 = .slice (some ⟨gM,0,none⟩) k l.length∧Hid (MxS w wr g0 gM gO l.length (l.map TF.zs) hs)) (fun _ i _=>l.length-(intOf i).toNat)
 case atStart=>exact ⟨0,[],rfl,Nat.zero_le _,rfl,rfl,HM⟩
 case round =>
  obtain ⟨k,hs,hsl,hk,rfl,rfl,HM2⟩:=hrel
  clear HM
  obtain ⟨wo,rfl⟩:∃ wo:World,wo=wr:=⟨_,rfl⟩
  by_cases hlt:k<l.length
  · obtain ⟨a,ha⟩:∃ a,l[k]? = some a:=⟨_,List.getElem?_eq_getElem hlt⟩
    have ham:=List.mem_of_getElem? ha
    obtain ⟨b,off,rfl,hbB,qc⟩:=hF.1 (by omega)
    have hc0:=qc k a ha 0 _ rfl
    simp only [Nat.mul_one,Nat.add_zero] at hc0
    have hck:wo.cell? ⟨b,off+k,none⟩=some (.slice a.A a.zs.length a.c):=(HM2.out.b.cell (p:=⟨b,off+k,none⟩) hbB).trans hc0
    have hI:=hF.2 a ham
    have h160:=ok.z160 a ham
    have hw:=ok.bd a ham
    have hkz:(l.map TF.zs).getD k []=a.zs:=by rw [List.getD_eq_getElem?_getD,List.getElem?_map,ha];rfl
    have HKZ:=Z9 hkz
    obtain ⟨fA,fc,fz⟩:=a
    simp only at hck hI h160 hw HKZ
    have HI:=Z9 hI
    have HW:=Z9 hw
    have hi0:(0:Int)≤(k:Int):=by omega
    have hi1:(k:Int)<(l.length:Int):=by omega
    obtain ⟨cur,hcl,HO⟩:=HM2.out.own
    clear hI hw qc hc0 ham ha hkz
    have hclr:=zgp (P:=Tryz.prog) (w:=wo) 51 104 0 (.int .i16 0) Tryz.underlying51 ztu rfl rfl gO 160 160 (by omega) 104 cur HO hcl
    obtain ⟨Z8,hZ8⟩:∃ Z8,Z8=List.replicate 160 (Value.int .i16 0):=⟨_,rfl⟩
    rw [← hZ8] at hclr
    have HZ8:=Z9 hZ8
    have hzl:Z8.length=160:=by rw [hZ8];simp
    clear hZ8
    go_upto_region 10 with fail
    have BO:Blk (wo.setRow gO Z8.toArray) gO 104 Z8.toArray:=setRow_heap wo gO _ _ _ _ HO
    replace HM2:=Z9 (HM2.out.setOwn (OnlyB.setRow wo gO Z8.toArray) _ hzl BO)
    generalize wo.setRow gO Z8.toArray=W1 at BO HM2 ⊢
    clear hclr HO hck
    have HFC:Hid (0<(fz.map (Value.int .i16)).length→∃ ad,fA=some ad∧∀ j v,(fz.map (Value.int .i16))[j]? = some v→W1.cell? (ad.add j)=some v):=Z9 fun h0=>by
     rw [List.length_map] at h0
     obtain ⟨b2,off2,e,hb2,hc2⟩:=HI.out h0
     refine ⟨_,e,fun j v hv => ?_⟩
     obtain ⟨z,hz,rfl⟩:=List.getElem?_map ▸ hv |> Option.map_eq_some_iff.1
     have hj:j<fz.length:=(List.getElem?_eq_some_iff.1 hz).1
     have h9:=(HM2.out.b.cell (p:=⟨b2,off2+j,none⟩) hb2).trans (hc2 j hj)
     have e2:(⟨b2,off2,none⟩:Addr).add j=⟨b2,off2+j,none⟩:=by unfold Addr.add;split<;>simp_all
     rw [e2,h9,List.getD_eq_getElem?_getD,hz];rfl
    go_upto_region 11 with (first|(refine zdz (o:=⟨some 37,_,_,_,_,_⟩) rfl (.tmp 35) (.tmp 36) 51 51 rfl 104 Tryz.underlying51 zwd fA gO 160 160 fz.length fc rfl rfl Z8 104 BO hzl (fz.map (Value.int .i16)) (by simp) h160 HFC.out (by intro v hv;obtain ⟨z,_,rfl⟩:=List.mem_map.1 hv;rfl) ?_;intro W2 B2 O2)|fail)
    try simp only [ss9]
    generalize goInt (((fz.map (Value.int .i16)).length:Nat):Int)=v37
    have hfl:(fz.map (Value.int .i16)).length=fz.length:=by simp
    have HOWN:Hid (∀ m,m<160→W2.cell? ⟨gO,m,none⟩=some (.int .i16 (fz.getD m 0))):=Z9 fun m hm=>by
     refine B2.at m _ ?_
     rw [List.getElem?_toArray]
     by_cases hmf:m<fz.length
     · rw [List.getElem?_append_left (by rw [hfl];exact hmf),List.getElem?_map,List.getD_eq_getElem?_getD,List.getElem?_eq_getElem hmf];rfl
     · rw [List.getElem?_append_right (by rw [hfl];omega),hfl,List.getElem?_drop,HZ8.out,List.getD_eq_getElem?_getD,List.getElem?_eq_none (Nat.le_of_not_lt hmf),List.getElem?_replicate,if_pos (by omega)];rfl
    replace HM2:=Z9 (HM2.out.setOwn O2 _ (by rw [List.length_append,List.length_drop,hfl,hzl];omega) B2)
    clear B2 O2 BO HFC hfl hzl
    go_upto_region 12 with fail
    have hgH:=HM2.out.o4
    have HR:Hid (World.rowIs (W2.alloc (.cells (madeCells #[.int .i16 0] 160) 104)) W2.heap.size 104 160 (fun _ => .int .i16 0)):=Z9 (World.rowIs_made W2 _ _ _)
    have HB0:=Z9 ((Below.refl W2.heap.size W2).alloc (Nat.le_refl _) (.cells (madeCells #[.int .i16 0] 160) 104))
    have hs3:(W2.alloc (.cells (madeCells #[.int .i16 0] 160) 104)).heap.size=W2.heap.size+1:=zar _ _
    generalize W2.alloc (.cells (madeCells #[.int .i16 0] 160) 104)=W3 at HB0 HR hs3 ⊢
    obtain ⟨gH,hgh⟩:∃ g,g=W2.heap.size:=⟨_,rfl⟩
    rw [← hgh] at HR HB0 hgH hs3 ⊢
    have HGH:=Z9 hgh
    clear hgh
    go_wp2_with fail
    go_loopw [41] (fun i wr => ∃ m:Nat,m≤160∧i = .int .i64 m∧Hid (wr.rowIs gH 104 160 (fun j => .int .i16 (if j<m then Sb.satI (Sb.sumA (l.map TF.zs) j-fz.getD j 0) else 0)))∧Hid (Below gH W2 wr)) (fun i _=>160-(intOf i).toNat)
    case atStart=>exact ⟨0,Nat.zero_le _,rfl,Z9 (HR.out.congr (by simp)),HB0⟩
    case round =>
     obtain ⟨m,hm,rfl,HR2,HB2⟩:=hrel
     clear HR
     by_cases hlm:m<160
     · have hg0:=HM2.out.o2
       have hgm:=HM2.out.o3
       have hcs:wr.cell? ⟨g0,m,none⟩=some (.int .i64 (Sb.sumA (l.map TF.zs) m)):=(HB2.out.cell (p:=⟨g0,m,none⟩) (by show g0<gH;omega)).trans (HM2.out.sums.cell hlm)
       have hco:wr.cell? ⟨gO,m,none⟩=some (.int .i16 (fz.getD m 0)):=(HB2.out.cell (p:=⟨gO,m,none⟩) hgH).trans (HOWN.out m hlm)
       have hch:wr.cell? ⟨gH,m,none⟩=some (.int .i16 0):=by rw [HR2.out.cell hlm];simp
       have hfr:=HR2.out.frozen m
       have hrl:=HR2.out.lt
       have hsb:=zkh (l.map TF.zs) m (fun f hf=>by
        obtain ⟨a',ha',rfl⟩:=List.mem_map.1 hf
        exact ok.bd a' ha')
       rw [List.length_map] at hsb
       have hfb : -32768≤fz.getD m 0∧fz.getD m 0≤32767:=by
        by_cases h:m<fz.length
        · exact HW.out.at h
        · rw [List.getD_eq_getElem?_getD,List.getElem?_eq_none (Nat.le_of_not_lt h)];exact ⟨by decide,by decide⟩
       obtain ⟨Z,hZ⟩:∃ Z,Z=Sb.sumA (l.map TF.zs) m:=⟨_,rfl⟩
       obtain ⟨F,hF'⟩:∃ F,F=fz.getD m 0:=⟨_,rfl⟩
       rw [← hZ] at hcs hsb
       rw [← hF'] at hco hfb
       have HZ:=Z9 hZ
       have HF':=Z9 hF'
       have hw1:IntKind.i64.wrap F=F:=by simp only [IntKind.wrap,IntKind.bits,IntKind.signed];simp;omega
       have hw2:IntKind.i64.wrap (Z-F)=Z-F:=by simp only [IntKind.wrap,IntKind.bits,IntKind.signed];simp;omega
       have kst:=Z9 fun V=>zts (Z-F) (by omega) (by omega) V
       have hi2:(0:Int)≤(m:Int):=by omega
       have hi3:(m:Int)<(160:Int):=by omega
       have hn1:g0≠gH:=by omega
       have hn2:gO≠gH:=by omega
       have hn3:gH≠g0:=by omega
       have hn4:gH≠gO:=by omega
       clear hZ hF' hsb hfb
       go_upto_region 15 with fail
       go_region_held3 (fun w'=>w'.cell? ⟨g0,m,none⟩=some (.int .i64 Z)∧w'.cell? ⟨gO,m,none⟩=some (.int .i16 F)) (go_keep) (first|(go_at_call 28;refine (kst.out _).mono ?_;rintro e w' ⟨rfl,rfl⟩)|fail)
       go_wp2_with fail
       go_roundw
       case rel =>
        refine ⟨m+1,by omega,by go_num,?_,Z9 (HB2.out.setCell (Nat.le_refl _) _).drew⟩
        refine Z9 (show World.rowIs (wr.setCell ⟨gH,m,none⟩ (.int .i16 (Sb.satI (Z-F)))) _ _ _ _ from ?_)
        rw [HZ.out,HF'.out]
        exact zav (g:=fun j=>Sb.satI (Sb.sumA (l.map TF.zs) j-fz.getD j 0)) HR2.out
       case measure=>simp [intOf];omega
     · obtain rfl:m=160:=by omega
       go_upto_region 17 with fail
       have hwr:gH<wr.heap.size:=HR2.out.lt
       have HM3:=Z9 (HM2.out.later (by rw [← HGH.out];exact HB2.out))
       have HIH:Hid (IntsNew (gO+1) wr .i16 (some ⟨gH,0,none⟩) (Sb.mixL (l.map TF.zs) hs.length)):=Z9 ⟨IntsAt.of_row HR2.out (by rw [Sb.mixL_len];exact Nat.le_refl _) (fun i hi=>by
        rw [Sb.mixL_len] at hi
        rw [if_pos hi]
        unfold Sb.mixL
        rw [hsl,HKZ.out,zfv _ 160 i hi]),fun _ b' o' e=>by cases e;exact hgH⟩
       have hroom:(hs.flatMap TF.row++List.replicate (l.length-hs.length) (Value.slice none 0 0)).length=l.length:=by rw [List.length_append,zgq,List.length_replicate];omega
       clear HM2 HB2 HR2 HOWN HB0 hs3
       go_wp2_with (first|(at_builtin;refine zct rfl _ _ 55 rfl 51 24 (.slice none 0 0) Tryz.underlying55 zir gM k l.length rfl (.slice (some ⟨gH,0,none⟩) 160 160) rfl rfl _ HM3.out.mix hroom hlt ?_;intro W5 B5 O5)|fail)
       go_roundw
       case rel =>
        refine ⟨k+1,hs ++ [⟨some ⟨gH,0,none⟩,160,Sb.mixL (l.map TF.zs) hs.length⟩],by rw [List.length_append,hsl];rfl,by omega,by go_num,rfl,Z9 ?_⟩
        refine (HM3.out.later ((Below.refl _ _).alloc (Nat.le_refl _) (.cells #[.slice (some ⟨gH,0,none⟩) 160 160] 51))).setMix O5 _ rfl (HIH.out.push _) ?_
        have e:((hs ++ [(⟨some ⟨gH,0,none⟩,160,Sb.mixL (l.map TF.zs) hs.length⟩:TF)]).flatMap TF.row++List.replicate (l.length-(hs ++ [(⟨some ⟨gH,0,none⟩,160,Sb.mixL (l.map TF.zs) hs.length⟩:TF)]).length) (Value.slice none 0 0))=(hs.flatMap TF.row++List.replicate (l.length-hs.length) (Value.slice none 0 0)).take k ++ [.slice (some ⟨gH,0,none⟩) 160 160]++(hs.flatMap TF.row++List.replicate (l.length-hs.length) (Value.slice none 0 0)).drop (k+1):=by
         have hfr:=zgq hs
         rw [List.take_append_of_le_length (by omega),List.take_of_length_le (by omega),List.drop_append,List.drop_eq_nil_of_le (by omega),List.nil_append,hfr,hsl,show k+1-k=1 by omega,List.drop_replicate,List.flatMap_append,List.length_append,hsl,List.length_singleton,show l.length-(k+1)=l.length-k-1 by omega]
         congr 2
        rw [e]
        exact B5
       case measure=>simp [intOf];omega
  · obtain rfl:k=l.length:=by omega
    have e:hs.flatMap TF.row++List.replicate (l.length-hs.length) (Value.slice none 0 0)=hs.flatMap TF.row:=by rw [hsl,Nat.sub_self];simp
    go_wp2_with fail
    go_ret2
    refine ⟨gM,hs,by rw [List.length_map];rfl,?_,?_,?_,fun a ha=>(HM2.out.ints a ha).less (by have:=HM2.out.o1;have:=HM2.out.o2;have:=HM2.out.o3;omega),HM2.out.b⟩
    · rw [List.length_map,← hsl];exact HM2.out.val
    · have:=HM2.out.o1;have:=HM2.out.o2;omega
    · intro h0
      refine ⟨gM,0,rfl,HM2.out.mix.lt,fun i a ha j v hv => ?_⟩
      obtain rfl:j=0:=by
       have:=(List.getElem?_eq_some_iff.1 hv).1
       have h1:(TF.row a).length=1:=rfl
       omega
      refine HM2.out.mix.at _ _ ?_
      rw [List.getElem?_toArray,e,show 0+i*1+0=i by omega,zis hs i a ha]
      exact hv
def SortR (n gI:Nat) (V:World) (e:Ending) (w':World):Prop:=e = .returned (.tuple #[])∧Chg [gI] V w'∧∃ f':Nat→Nat,w'.rowIs gI 3 n (fun j => .int .i64 (f' j))∧∀ j,j<n→f' j<n
theorem zqp (x:Value) (cl:Value) (V:World):Calls Tryz.prog 139 #[x, .int .i64 0, .int .i64 1,cl] V fun e w'=>e = .returned (.tuple #[])∧w'=V:=by
 go_enter Tryz.func139,Tryz.ntmps139
 go_wp2_with fail
 go_loopw [8] (fun i wr=>i = .int .i64 1∧wr=V) (fun i _=>0)
 case atStart=>exact ⟨rfl,rfl⟩
 case round =>
  obtain ⟨rfl,rfl⟩:=hrel
  go_wp2_with fail
  go_end0;exact ⟨rfl,rfl⟩
theorem znm (x:Value) (cl:Value) (V:World):Calls Tryz.prog 137 #[x, .int .i64 1,cl] V fun e w'=>e = .returned (.tuple #[])∧w'=V:=by
 have k1:=Z9 (zqp x cl)
 go_enter Tryz.func137,Tryz.ntmps137
 go_wp2_with fail
 go_loopw [7,8] (fun s7 s8 wr=>s7 = .int .i64 0∧s8 = .int .i64 20∧wr=V) (fun _ _ _=>0)
 case atStart=>exact ⟨rfl,rfl,rfl⟩
 case round =>
  obtain ⟨rfl,rfl,rfl⟩:=hrel
  go_wp2_with fail
  refine (k1.out _).mono ?_
  rintro e w1 ⟨rfl,rfl⟩
  go_wp2_with fail
  go_loopw [6] (fun s6 wr=>s6 = .int .i64 20∧wr=w1) (fun _ _=>0)
  case atStart=>exact ⟨rfl,rfl⟩
  case round =>
   obtain ⟨rfl,rfl⟩:=hrel
   go_wp2_with fail
   go_end0;exact ⟨rfl,rfl⟩
theorem znn (A:Option Addr) (c:Nat) (cl:Value) (V:World):Calls Tryz.prog 133 #[.slice A 1 c,cl] V fun e w'=>e = .returned (.tuple #[])∧w'=V:=by
 have k1:=Z9 (znm (.slice A 1 c) cl)
 go_enter Tryz.func133,Tryz.ntmps133
 go_wp2_with fail
 refine (k1.out _).mono ?_
 rintro e w1 ⟨rfl,rfl⟩
 go_wp2_with fail
 go_end0;exact ⟨rfl,rfl⟩
def OrdR (ps:List Pc) (W:World) (e:Ending) (w':World):Prop:=∃ (A':Option Addr) (c':Nat) (ps':List Pc),e = .returned (.slice A' ps.length c')∧ps'.length=ps.length∧(∀ p∈ps',p∈ps)∧Owns w' W.heap.size 255 10 A' ps.length c' (ps'.flatMap Pc.row)∧Below W.heap.size W w'
theorem zxs (n:Nat):(madeCells #[.bool false, .int .i64 0, .bool false, .int .i64 0, .int .i64 0, .string { data := #[] }, .string { data := #[] }, .int .i64 0, .bool false, .slice none 0 0] (n*10)).size=n*10:=size_madeCells _ _
theorem ztw (A:Option Addr) (c:Nat) (ps:List Pc) (cl:Value) (W:World) (hR:RowsAt W W.heap.size 10 Pc.row A ps) (hl:ps.length≤1000) (h0:0<ps.length)
 (kS:∀ (V:World) (gI:Nat) (f:Nat→Nat),W.heap.size≤gI→Below W.heap.size W V→V.rowIs gI 3 ps.length (fun j => .int .i64 (f j))→(∀ j,j<ps.length→f j<ps.length)→Calls Tryz.prog 133 #[.slice (some ⟨gI,0,none⟩) ps.length ps.length,cl] V (SortR ps.length gI V)) :
 Calls Tryz.prog 111 #[.slice A ps.length c,cl] W (OrdR ps W):=by
 have hmk:=run_make_row' (P:=Tryz.prog) 118 3 (.int .i64 0) 8 Tryz.underlying118 zst rfl .i64 .i64 ps.length (by omega) (by omega) W
 obtain ⟨W1,hW1⟩:∃ W1,W1=W.alloc (.cells (madeCells #[.int .i64 0] ps.length) 3):=⟨_,rfl⟩
 have hrow:W1.rowIs W.heap.size 3 ps.length (fun _ => .int .i64 0):=by rw [hW1];exact World.rowIs_made W _ _ _
 have qb:Below W.heap.size W W1:=by rw [hW1];exact (Below.refl _ _).alloc (Nat.le_refl _) _
 rw [← hW1] at hmk
 obtain ⟨fi,hfi,hfz,hfs,hfb⟩:=info_parts zdh
 have hmk2:∀ V:World,(Instr.makeSlice 251 (.int .i64 0) (.int .i64 (ps.length:Int))).run Tryz.prog V = .ok (.slice (some ⟨V.heap.size,0,none⟩) 0 ps.length) (V.alloc (.cells (madeCells #[.bool false, .int .i64 0, .bool false, .int .i64 0, .int .i64 0, .string { data := #[] }, .string { data := #[] }, .int .i64 0, .bool false, .slice none 0 0] (ps.length*10)) 255)):=fun V=>by
  have h:=run_make (P:=Tryz.prog) V 251 255 fi _ Tryz.underlying251 hfi hfz .i64 .i64 0 (ps.length:Int) (Int.le_refl _) (by omega) (by rw [hfb];omega) (by omega)
  rw [hfs,Int.toNat_natCast] at h
  exact h
 clear hW1 hfi hfz hfs hfb
 have KR:=Z9 hR
 have KS:=Z9 kS
 have HRW:=Z9 hrow
 have HBL:=Z9 qb
 clear hR kS hrow qb
 have hls:=HRW.out.lt
 go_enter Tryz.func111,Tryz.ntmps111
 go_wp2_with fail
 go_loopw [15] (fun i wr => ∃ k:Nat,k≤ps.length∧i = .int .i64 k∧Hid (wr.rowIs W.heap.size 3 ps.length (fun j => .int .i64 ((if j<k then j else 0:Nat):Int)))∧Hid (Below W.heap.size W wr)) (fun i _=>ps.length-(intOf i).toNat)
 case atStart=>exact ⟨0,Nat.zero_le _,rfl,Z9 (HRW.out.congr (fun j _=>by simp)),HBL⟩
 case round =>
  obtain ⟨k,hk,rfl,HR,HB⟩:=hrel
  have hi0:(0:Int)≤(k:Int):=by omega
  by_cases hlt:k<ps.length
  · have hcr:=HR.out.cell hlt
    have hfr:=HR.out.frozen k
    have hrl:=HR.out.lt
    have hi1:(k:Int)<(ps.length:Int):=by omega
    go_wp2_with fail
    refine ⟨⟨k+1,by omega,by simp,Z9 ?_,Z9 (HB.out.setCell (Nat.le_refl _) _)⟩,?_⟩
    · have hr2:=HR.out.congr (g:=fun j => .int .i64 (if j<k then (j:Int) else 0)) (fun j hj=>by by_cases h:j<k<;>simp [h])
      have h3:=zav (g:=fun j=>(j:Int)) hr2
      refine h3.congr (fun j hj => ?_)
      by_cases h:j<k+1<;>simp [h]
    · simp [intOf];omega
  · obtain rfl:k=ps.length:=by omega
    have hn:¬(ps.length:Int)<(ps.length:Int):=by omega
    have hrw:wr.rowIs W.heap.size 3 ps.length (fun j => .int .i64 ((id j:Nat):Int)):=HR.out.congr (fun j hj=>by simp [hj])
    have ks:=Z9 (KS.out wr W.heap.size id (Nat.le_refl _) HB.out hrw (fun j hj=>hj))
    clear hrw
    go_wp2_with fail
    refine ks.out.mono ?_
    rintro e w2 ⟨rfl,hch,f',hr',hf'⟩
    have HR2:=Z9 hr'
    have HF2:=Z9 hf'
    have HB2:Hid (Below W.heap.size W w2):=Z9 ⟨hch.os.trans HB.out.os,hch.tape.trans HB.out.tape,hch.output.trans HB.out.output,Nat.le_trans HB.out.size hch.size,fun k hk=>(hch.block k (Nat.lt_of_lt_of_le hk HB.out.size) (by simp;omega)).trans (HB.out.block k hk)⟩
    clear hr' hf' hch hlt hn
    have hl2:=HR2.out.lt
    have hs2:=HB2.out.size
    go_wp2_with fail
    have HO:Hid (Owns (w2.alloc (.cells (madeCells #[.bool false, .int .i64 0, .bool false, .int .i64 0, .int .i64 0, .string { data := #[] }, .string { data := #[] }, .int .i64 0, .bool false, .slice none 0 0] (ps.length*10)) 255)) (W.heap.size+1) 255 10 (some ⟨w2.heap.size,0,none⟩) 0 ps.length []):=Z9 (World.ownsRow_made w2 _ ps.length (by omega) (by unfold maxLen;omega) (zxs _))
    have HR3:=Z9 (HR2.out.alloc (.cells (madeCells #[.bool false, .int .i64 0, .bool false, .int .i64 0, .int .i64 0, .string { data := #[] }, .string { data := #[] }, .int .i64 0, .bool false, .slice none 0 0] (ps.length*10)) 255))
    have HB3:=Z9 (HB2.out.alloc HB2.out.size (.cells (madeCells #[.bool false, .int .i64 0, .bool false, .int .i64 0, .int .i64 0, .string { data := #[] }, .string { data := #[] }, .int .i64 0, .bool false, .slice none 0 0] (ps.length*10)) 255))
    generalize w2.alloc (.cells (madeCells #[.bool false, .int .i64 0, .bool false, .int .i64 0, .int .i64 0, .string { data := #[] }, .string { data := #[] }, .int .i64 0, .bool false, .slice none 0 0] (ps.length*10)) 255)=W3 at HO HR3 HB3 ⊢
    go_loopw [7,31] (fun s7 i wr => ∃ (j:Nat) (A':Option Addr) (c':Nat) (ps':List Pc),j≤ps.length∧i = .int .i64 j∧s7 = .slice A' j c'∧Hid (ps'.length=j∧∀ p∈ps',p∈ps)∧Hid (Owns wr (W.heap.size+1) 255 10 A' j c' (ps'.flatMap Pc.row))∧Hid (wr.rowIs W.heap.size 3 ps.length (fun j => .int .i64 (f' j)))∧Hid (Below W.heap.size W wr)) (fun _ i _=>ps.length-(intOf i).toNat)
    case atStart=>exact ⟨0,_,_,[],Nat.zero_le _,rfl,rfl,Z9 ⟨rfl,fun p hp=>by cases hp⟩,HO,HR3,HB3⟩
    case round =>
     obtain ⟨j,A',c',ps',hj,rfl,rfl,HP,HO,HR,HB⟩:=hrel
     have hi0:(0:Int)≤(j:Int):=by omega
     by_cases hlt:j<ps.length
     · have hi1:(j:Int)<(ps.length:Int):=by omega
       have hcr:=HR.out.cell hlt
       have hf:=HF2.out j hlt
       obtain ⟨m,hm⟩:∃ m,m=f' j:=⟨_,rfl⟩
       rw [← hm] at hcr hf
       obtain ⟨p,hp⟩:∃ p,ps[m]? = some p:=⟨_,List.getElem?_eq_getElem hf⟩
       obtain ⟨b,off,rfl,hbW,y0,y1,y2,y3,y4,y5,y6,y7,y8,y9⟩:=zhr (KR.out.keep (w':=wr) (fun _ hp=>HB.out.cell hp)) hp
       have hm0:(0:Int)≤(m:Int):=by omega
       have hm1:(m:Int)<(ps.length:Int):=by omega
       have hrl:=HR.out.lt
       have HM:=Z9 (List.mem_of_getElem? hp)
       have hwb:W.heap.size+1≤wr.heap.size:=by omega
       clear hm hp
       go_wp2_with (at_builtin;refine zao (w0:=wr) rfl _ _ 251 rfl (W.heap.size+1) 255 10 112 _ Tryz.underlying251 zdh rfl (by decide) A' j c' _ rfl HO.out [.bool p.f.lost, .int .i64 p.f.d, .bool p.f.again, .int .i64 p.f.ad, .int .i64 p.no, .string { data := #[97] }, .string { data := #[98] }, .int .i64 p.sent, .bool p.second, .slice p.A p.zs.length p.c] rfl (by simp [Value.oneCell']) rfl (by unfold maxLen;omega) (by omega) hwb ?_;intro A9 c9 v1 qo hgr2 hat)
       have hk:∀ k,ownB A'=some k→W.heap.size+1≤k:=fun k hk=>(HO.out.block k hk).1
       refine ⟨⟨j+1,A9,c9,ps' ++ [p],by omega,by simp,rfl,Z9 ⟨by simp [HP.out.1],fun x hx => ?_⟩,Z9 (by simpa [Pc.row] using qo),Z9 ?_,Z9 (HB.out.grown hgr2 (by omega) (fun k e=>by have:=hk k e;omega))⟩,?_⟩
       · rcases List.mem_append.1 hx with h|h
         · exact HP.out.2 x h
         · simp at h;rw [h];exact HM.out
       · obtain ⟨cc,h1,h2,h3⟩:=HR.out
         exact ⟨cc,(hgr2.block W.heap.size (by omega) (fun e=>by have:=hk _ e.symm;omega)).trans h1,h2,h3⟩
       · simp [intOf];omega
     · obtain rfl:j=ps.length:=by omega
       have hn:¬(ps.length:Int)<(ps.length:Int):=by omega
       go_wp2_with fail
       go_ret
       exact ⟨A',c',ps',rfl,HP.out.1,HP.out.2,HO.out.base_mono (Nat.le_succ _),HB.out⟩
theorem ztx:(Tryz.prog.info? 213).map (fun i=>(i.zero,i.size,i.bytes))=some (some (.agg #[.int .i64 0, .string { data := #[] }, .string { data := #[] }, .int .i64 0, .slice none 0 0]),5,72):=by kernel_rfl
structure Dg where
 no:Int
 at_:Int
 A:Option Addr
 c:Nat
 zs:List Int
def Dg.row (d:Dg):List Value:=[.int .i64 d.no, .string { data := #[97] }, .string { data := #[98] }, .int .i64 d.at_, .slice d.A d.zs.length d.c]
theorem zbq {T:List Nat} {w w':World} {b i:Nat} {v:Value} (h:Chg T w w') (hb:b∉T) (hc:w.cell? ⟨b,i,none⟩=some v):w'.cell? ⟨b,i,none⟩=some v:=(h.cell (p:=⟨b,i,none⟩) (zdf hc) hb).trans hc
def SortK (due:List Pc) (B:Nat):Prop:=∀ (V:World) (gI g6:Nat) (A1:Option Addr) (c1:Nat) (f:Nat→Nat),B≤gI→gI≠g6→V.cell? ⟨g6,0,none⟩=some (.slice A1 due.length c1)→RowsAv V [gI] 10 Pc.row A1 due→V.rowIs gI 3 due.length (fun j => .int .i64 (f j))→(∀ j,j<due.length→f j<due.length)→Calls Tryz.prog 133 #[.slice (some ⟨gI,0,none⟩) due.length due.length, .func (Fn.func 112) #[] #[.pointer (some ⟨g6,0,none⟩)]] V (SortR due.length gI V)
theorem zwe {due:List Pc} (h:due.length=1) (B:Nat):SortK due B:=by
 intro V gI g6 A1 c1 f h1 h2 h3 h4 h5 h6
 rw [h] at h5 h6 ⊢
 refine (znn _ _ _ V).mono ?_
 rintro e w' ⟨rfl,rfl⟩
 exact ⟨rfl,Chg.refl _ _,f,h5,h6⟩
def dueP (now:Int) (ps:List Pc):List Pc:=ps.filter fun p=>decide (p.at_≤now)
def restP (now:Int) (ps:List Pc):List Pc:=ps.filter fun p => !decide (p.at_≤now)
def RcvR (gc:Nat) (k:Ca) (now:Int) (W:World) (e:Ending) (w':World):Prop:=∃ (A':Option Addr) (c':Nat) (ds:List Dg) (rA:Option Addr) (rc:Nat),e = .returned (.tuple #[.slice A' ds.length c', .int .u8 0])∧ds.length=(dueP now k.ps).length∧(∀ d∈ds,∃ p∈dueP now k.ps,d.zs=p.zs)∧RowsNew W.heap.size w' 5 Dg.row A' ds∧(∀ d∈ds,IntsNew W.heap.size w' .u8 d.A d.zs∧d.zs.length≤d.c)∧Blk w' gc 253 (Ca.row { k with pA:=rA,pc:=rc,ps:=restP now k.ps,now:=now }).toArray∧Owns w' W.heap.size 255 10 rA (restP now k.ps).length rc ((restP now k.ps).flatMap Pc.row)∧Chg [gc] W w'
end Go.Proofs.YtbcgnddpkiemoaaGreat
