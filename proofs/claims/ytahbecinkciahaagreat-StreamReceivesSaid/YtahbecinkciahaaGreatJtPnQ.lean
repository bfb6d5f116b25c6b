/- Layer 30: Put of the program while it works: what lies in memory, what it leaves. -/
import Derived.Test.YtahbecinkciahaaGreatSs9Q
import Derived.Test.YtahbecinkciahaaGreatJtValidQ
import Derived.StillTailTactics
import Derived.Test.YtahbecinkciahaaGreatJtSmallQ
import Derived.Deep.RegionHeld3
import Derived.Deep.RegionWith
import Derived.Test.YtahbecinkciahaaGreatShelf
import Derived.Deep.QuietTactic
import Derived.BigQuiet
import Derived.Laws.BitsAllLaws
set_option linter.unusedVariables false
set_option linter.unusedSimpArgs false
set_option maxRecDepth 100000
set_option maxHeartbeats 12800000
namespace Go.Proofs.YtahbecinkciahaaGreat
attribute [local go_sem ↓] zae zaf
attribute [local go_sem] zad zag
open Go.RowKit
theorem r110 (s:Nat→Value):((List.range 110).map s).toArray = #[s 0,s 1,s 2,s 3,s 4,s 5,s 6,s 7,s 8,s 9,s 10,s 11,s 12,s 13,s 14,s 15,s 16,s 17,s 18,s 19,s 20,s 21,s 22,s 23,s 24,s 25,s 26,s 27,s 28,s 29,s 30,s 31,s 32,s 33,s 34,s 35,s 36,s 37,s 38,s 39,s 40,s 41,s 42,s 43,s 44,s 45,s 46,s 47,s 48,s 49,s 50,s 51,s 52,s 53,s 54,s 55,s 56,s 57,s 58,s 59,s 60,s 61,s 62,s 63,s 64,s 65,s 66,s 67,s 68,s 69,s 70,s 71,s 72,s 73,s 74,s 75,s 76,s 77,s 78,s 79,s 80,s 81,s 82,s 83,s 84,s 85,s 86,s 87,s 88,s 89,s 90,s 91,s 92,s 93,s 94,s 95,s 96,s 97,s 98,s 99,s 100,s 101,s 102,s 103,s 104,s 105,s 106,s 107,s 108,s 109]:=rfl
structure PN (w W:World) (lo B:Nat) (s:Jb.Jt) (m:Jb.Md) (MA:Option Addr) (mc:Nat) (A1:Option Addr) (l1:List TW) (A2:Option Addr) (c2:Nat) (l2:List TW):Prop where
 S:PSt w W lo B (JL s A2 l2.length c2) (ML m MA m.pl.length mc) A1 l1 A2 l2.length c2 l2
 hq:l2.map TW.w=s.q
structure PI (s:Jb.Jt) (m:Jb.Md) (now:Int) (l2:List TW):Prop where
 nw:s.now=now
 n0:0≤now
 n1:now≤281474976710656
 t0 : -281474976710656≤m.ti
 t1:m.ti≤281474976710656
 la0:0≤s.late
 la1:s.late≤281474976710656
 tw0:0≤s.twice
 tw1:s.twice≤281474976710656
 sp0:0≤s.spread
 sp1:s.spread≤72057594037927936
 tr0 : -1125899906842624≤s.trans
 tr1:s.trans≤1125899906842624
 cf:Jb.cfg s.least s.most
 ok:Jb.okQ now s.high s.q
 z0 : -1125899906842624≤(Jb.meas s m).zero
 z1:(Jb.meas s m).zero≤1125899906842624
 f0 : -281474976710656≤(Jb.meas s m).first
 f1:(Jb.meas s m).first≤281474976710656
def PutP (T:Jb.Jt×Int) (D:List Jb.Wt) (w:World) (e:Ending) (w':World):Prop :=
 ∃ (A1:Option Addr) (c1:Nat) (l1:List TW) (A2:Option Addr) (c2:Nat) (l2:List TW),e = .returned (.tuple #[JV T.1 A2 l2.length c2, .slice A1 l1.length c1, .int .u8 T.2, .int .u8 0])∧l1.map TW.w=D∧l2.map TW.w=T.1.q∧WtsIn w' w.heap.size w'.heap.size A1 l1∧WtsIn w' w.heap.size w'.heap.size A2 l2∧l2.length≤c2∧c2≤maxLen∧Below w.heap.size w w'∧l1.length≤c1∧c1≤maxLen
section
variable {w W W':World} {lo B c1 c2 mc:Nat} {s:Jb.Jt} {m:Jb.Md} {MA A1 A2:Option Addr} {l1 l2:List TW} {T:Jb.Jt×Int}
theorem PN.later (h:PN w W lo B s m MA mc A1 l1 A2 c2 l2) (hb:Below W.heap.size W W'):PN w W' lo B s m MA mc A1 l1 A2 c2 l2:=⟨h.S.later hb,h.hq⟩
theorem PN.put (h:PN w W lo B s m MA mc A1 l1 A2 c2 l2) (i:Nat) (v:Value) (s':Jb.Jt) (hJ:(JL s A2 l2.length c2).set i v=JL s' A2 l2.length c2:=by rfl) (hq:s.q=s'.q:=by rfl):PN w (W.setCell ⟨w.heap.size,i,none⟩ v) lo B s' m MA mc A1 l1 A2 c2 l2:=⟨by have:=h.S.set i v;rw [hJ] at this;exact this,h.hq.trans hq⟩
theorem QOwn.onlyB {g n c:Nat} {A:Option Addr} {l:List TW} (h:QOwn W B A n c l) (ho:OnlyB g W W') (hg:g<B):QOwn W' B A n c l :=
 ⟨h.len,ho.owns h.own hg,fun a ha h0=>by
  obtain ⟨b,off,e,hlt,hc⟩:=h.pay a ha h0
  have:=h.new a ha h0 b off e
  exact ⟨b,off,e,by rw [ho.2];exact hlt,fun i hi=>(ho.cell (show b≠g by omega)).trans (hc i hi)⟩,h.far,h.new,h.cap⟩
theorem PN.box {s':Jb.Jt} (h:PN w W lo B s m MA mc A1 l1 A2 c2 l2) (ho:OnlyB w.heap.size W W') (hb:Blk W' w.heap.size 40 (JL s' A2 l2.length c2).toArray) (hq:s.q=s'.q):PN w W' lo B s' m MA mc A1 l1 A2 c2 l2:=by
 have h1:=h.S.lo1
 have h2:=h.S.lo2
 exact ⟨⟨hb,ho.blk h.S.bm (by omega),ho.blk h.S.br (by omega),ho.bel h.S.u (Nat.le_refl _),h.S.p1.keep fun p g1 g2=>ho.cell (by omega),h.S.q2.onlyB ho (by omega),h.S.lo1,h.S.lo2,by rw [ho.2];exact h.S.hB⟩,h.hq.trans hq⟩
theorem PN.done {WB:World} {v:Int} (h:PN w W lo B s m MA mc A1 l1 A2 c2 l2) (ho:OnlyB (w.heap.size+1+1) W WB) (hc1:l1.length≤c1) (hc1m:c1≤maxLen) (hT:T=(s,v)):PutP T (l1.map TW.w) w (.returned (.tuple #[JV s A2 l2.length c2, .slice A1 l1.length c1, .int .u8 v, .int .u8 0])) WB:=by
 subst hT
 have h1:=h.S.lo1
 have h2:=h.S.lo2
 have h3:=h.S.hB
 have hs:=ho.2
 exact ⟨A1,c1,l1,A2,c2,l2,rfl,rfl,h.hq,((h.S.p1.keep fun p g1 g2=>ho.cell (by omega)).more (by omega)).less (by omega),((h.S.q2.wtsIn.keep fun p g1 g2=>ho.cell (by omega)).more (by omega)).less (by omega),h.S.q2.own.cap,Owns.capm h.S.q2.own,ho.bel h.S.u (by omega),hc1,hc1m⟩
end
theorem zts {W:World} {g:Nat} {t:TypeId} {v0 v1 v2 v3 v4 v5:Value} (h:Blk W g t #[v0,v1,v2,v3,v4,v5]):W.cell? ⟨g,0,none⟩=some v0∧W.cell? ⟨g,1,none⟩=some v1∧W.cell? ⟨g,2,none⟩=some v2∧W.cell? ⟨g,3,none⟩=some v3∧W.cell? ⟨g,4,none⟩=some v4∧W.cell? ⟨g,5,none⟩=some v5:=⟨h.at 0 _ rfl,h.at 1 _ rfl,h.at 2 _ rfl,h.at 3 _ rfl,h.at 4 _ rfl,h.at 5 _ rfl⟩
noncomputable def pn5_code:Code:=((Tryz.f46.body.bind (fromReg 5)).getD .skip)
noncomputable def pn14_code:Code:=((Tryz.f46.body.bind (fromReg 14)).getD .skip)
noncomputable def pn21_code:Code:=((Tryz.f46.body.bind (fromReg 21)).getD .skip)
theorem zum {w W:World} {lo B:Nat} {s:Jb.Jt} {m:Jb.Md} {MA:Option Addr} {mc:Nat} {A1:Option Addr} {l1:List TW} {c1:Nat} {A2:Option Addr} {c2:Nat} {l2:List TW} {now:Int} {T:Jb.Jt×Int} {hgh:Int} {AT:Int} (S:PN w W lo B s m MA mc A1 l1 A2 c2 l2) (hc1:l1.length≤c1) (hc1m:c1≤maxLen) (MI:IntsAt w w.heap.size .u8 MA m.pl) (hm9:m.pl.length≤100000) (hok:Jb.okQ now hgh s.q) (hany:(s.q.any fun w=>w.m.sq==m.sq)=false) (hT:T=({ s with q:=Jb.ins s.q ⟨AT,m⟩ }, 1)) (a:Act) (ha:Fr 110 [(1, .int .i64 now),(3, .pointer (some ⟨w.heap.size,0,none⟩)),(5, .pointer (some ⟨w.heap.size+1,0,none⟩)),(6, .pointer (some ⟨w.heap.size+1+1,0,none⟩)),(11, .slice A1 l1.length c1),(13, .int .i64 AT)] a):firstWp Tryz.prog pn21_code (bodyPost Tryz.prog Tryz.f46 (PutP T (l1.map TW.w) w)) a W:=by
 obtain ⟨s_,rfl,e1,e3,e5,e6,e11,e13,_⟩:=ha
 rw [r110,e1,e3,e5,e6,e11,e13]
 clear e1 e3 e5 e6 e11 e13
 have hl2:l2.length≤200:=by have:=hok.1;rw [← S.hq] at this;simpa using this
 have hasc:=((Jb.okQ_iff _ _ _).1 hok).2.2.1
 have hne9:∀ y∈s.q,y.m.sq≠m.sq:=fun y hy e=>by
  rw [List.any_eq_false] at hany
  exact hany y hy (by simpa using e)
 rw [← S.hq] at hasc hne9
 have HASC:=H9 hasc
 have HNE:=H9 hne9
 have HT:=H9 hT
 clear hasc hne9 hok hany hT
 refine zau ?_
 intro _ _
 go_wp2_with (first|(refine zab rfl 103 (.tmp 5) rfl (w.heap.size+1) 0 rfl 103 (ML m MA m.pl.length mc) S.S.bm 5 _ Tryz.underlying103 zcu (show 0+5≤5 by decide) #[.int .i64 m.sq, .int .i64 m.ti, .bool m.mrk, .int .u8 m.ty, .slice MA m.pl.length mc] (by rfl) rfl ?_)|fail)
 refine (zdt m.sq m.ti m.mrk m.ty MA m.pl m.pl.length mc _ w.heap.size (Nat.le_of_lt (Nat.lt_of_le_of_lt (Nat.le_succ _) S.S.bm.lt)) (MI.below S.S.u) (by omega) rfl).mono ?_
 rintro e w7 ⟨A9,c9,rfl,hI9,hb7,hcp9⟩
 have hwb:=hb7.size
 have hobl:∀ g,ownB A2=some g→g<W.heap.size:=fun g hg=>(S.S.q2.own.block g hg).2
 have hB6:=S.S.hB
 replace S:=(S.later hb7).later ((Below.refl w7.heap.size w7).alloc (Nat.le_refl _) (.cells #[.int .i64 AT, .int .i64 m.sq, .int .i64 m.ti, .bool m.mrk, .int .u8 m.ty, .slice A9 m.pl.length c9] 105))
 have BW:=H9 (Blk.new w7 105 #[.int .i64 AT, .int .i64 m.sq, .int .i64 m.ti, .bool m.mrk, .int .u8 m.ty, .slice A9 m.pl.length c9])
 have HI9:=H9 (hI9.push (.cells #[.int .i64 AT, .int .i64 m.sq, .int .i64 m.ti, .bool m.mrk, .int .u8 m.ty, .slice A9 m.pl.length c9] 105))
 clear hb7 hI9
 go_upto_region 22 with fail
 have hs8:=Nat.lt_of_le_of_lt hwb BW.out.lt
 generalize hgx:w7.heap.size=gx at *
 generalize w7.alloc _=W8 at *
 clear hgx
 have b10:W8.cell? ⟨w.heap.size,10,none⟩=some (.slice A2 l2.length c2):=S.S.bs.at 10 _ rfl
 obtain ⟨x0,x1,x2,x3,x4,x5⟩:=zts BW.out
 go_wp2_with fail
 refine (zkn A2 l2 l2.length c2 ⟨AT,m⟩ A9 m.pl.length c9 _ rfl (by omega) S.S.q2.wts HASC.out HNE.out).mono ?_
 rintro e w9 ⟨rfl,hb9⟩
 have hplace:=zth (l2.map TW.w) ⟨AT,m⟩
 rw [List.length_map] at hplace
 have hsplit:=zkm (l2.map TW.w) ⟨AT,m⟩
 generalize place (l2.map TW.w) ⟨AT,m⟩=PP at hplace hsplit ⊢
 have HSPL:=H9 hsplit
 replace S:=S.later hb9
 replace HI9:=H9 (HI9.out.later hb9)
 replace BW:=H9 (BW.out.later hb9)
 have hsz9:=hb9.size
 clear hb9 hsplit b10 x0 x1 x2 x3 x4 x5
 go_upto_region 23 with fail
 have b10:w9.cell? ⟨w.heap.size,10,none⟩=some (.slice A2 l2.length c2):=S.S.bs.at 10 _ rfl
 obtain ⟨x0,x1,x2,x3,x4,x5⟩:=zts BW.out
 replace S:=S.later ((Below.refl w9.heap.size w9).alloc (Nat.le_refl _) (.cells #[.int .i64 AT, .int .i64 m.sq, .int .i64 m.ti, .bool m.mrk, .int .u8 m.ty, .slice A9 m.pl.length c9] 105))
 have BV:=H9 (Blk.new w9 105 #[.int .i64 AT, .int .i64 m.sq, .int .i64 m.ti, .bool m.mrk, .int .u8 m.ty, .slice A9 m.pl.length c9])
 replace HI9:=H9 (HI9.out.push (.cells #[.int .i64 AT, .int .i64 m.sq, .int .i64 m.ti, .bool m.mrk, .int .u8 m.ty, .slice A9 m.pl.length c9] 105))
 have hwz:W.heap.size<w9.heap.size:=by omega
 have hfz:=S.S.bs.frozen
 go_wp2_with fail
 refine (zod B l2.length c2 PP w9.heap.size A2 l2 (⟨⟨AT,m⟩,A9,c9⟩:TW) _ (by omega) S.S.hB S.S.q2 hplace BV.out (fun e=>by have h9:=hobl _ e.symm;omega) HI9.out.1 (fun h0 b off e he=>by have h9:=HI9.out.2 h0 b off e;have h8:=hobl b he.symm;omega) (fun h0 b off e=>by have h9:=HI9.out.2 h0 b off e;omega) hcp9).mono ?_
 rintro e w11 ⟨A3,c3,rfl,hq3,hb3⟩
 have hl3m:(l2.take PP++(⟨⟨AT,m⟩,A9,c9⟩:TW)::l2.drop PP).map TW.w=Jb.ins s.q ⟨AT,m⟩:=by rw [← S.hq,HSPL.out,List.map_append,List.map_cons,List.map_take,List.map_drop]
 have hl3:(l2.take PP++(⟨⟨AT,m⟩,A9,c9⟩:TW)::l2.drop PP).length=l2.length+1:=hq3.len
 have S3:=S.S.ins hb3 hq3
 generalize (l2.take PP++(⟨⟨AT,m⟩,A9,c9⟩:TW)::l2.drop PP)=l3 at *
 clear hb3 hq3 S b10 x0 x1 x2 x3 x4 x5 BV HI9 BW hfz
 have b10:w11.cell? ⟨w.heap.size,10,none⟩=some (.slice A2 l2.length c2):=S3.bs.at 10 _ rfl
 have bfz:=S3.bs.frozen
 go_upto_region 24 with fail
 have S4:=S3.set 10 (.slice A3 (l2.length+1) c3)
 rw [← hl3] at S4
 rw [← hl3]
 have S:PN w _ lo B { s with q:=Jb.ins s.q ⟨AT,m⟩ } m MA mc A1 l1 A3 c3 l3:=⟨S4,hl3m⟩
 clear S4 S3 b10 bfz hl3 hl3m
 generalize w11.setCell _ _=W12 at S ⊢
 go_wp2_with (first|(refine zab rfl 40 (.tmp 3) rfl (w.heap.size) 0 rfl 40 (JL { s with q:=Jb.ins s.q ⟨AT,m⟩ } A3 l3.length c3) S.S.bs 14 _ Tryz.underlying40 zao (show 0+14≤14 by decide) (JL { s with q:=Jb.ins s.q ⟨AT,m⟩ } A3 l3.length c3).toArray (by rfl) rfl ?_)|(refine zac rfl 40 (.tmp 6) (.tmp 108) rfl (w.heap.size+1+1) 0 rfl 40 Z14 S.S.br (JL { s with q:=Jb.ins s.q ⟨AT,m⟩ } A3 l3.length c3) rfl zao (show 0+14≤14 by decide) rfl (JL { s with q:=Jb.ins s.q ⟨AT,m⟩ } A3 l3.length c3) rfl ?_;intro WB BB OB)|fail)
 exact bodyPost_ret (v := .tuple #[JV { s with q:=Jb.ins s.q ⟨AT,m⟩ } A3 l3.length c3, .slice A1 l1.length c1, .int .u8 1, .int .u8 0]) (zar Tryz.results46 rfl (run_loadVar_row (P:=Tryz.prog) _ _ _ _ _ _ _ BB Tryz.underlying40 rfl (by kernel_rfl)) rfl rfl rfl) rfl (S.done OB hc1 hc1m HT.out)
theorem znb (s:Jb.Jt) (m:Jb.Md) (now:Int) (hn:s.now=now) (h0:(s.q.any fun w=>w.m.sq==m.sq)=false) (h1:¬(s.on=true∧m.sq≤s.done)) (h2:¬200≤s.q.length):Jb.put0 s m=tailT (Jb.meas s m) m now:=by
 subst hn
 exact zjk s m h0 h1 h2 _ _ rfl rfl
theorem zph {w W:World} {lo B:Nat} {s:Jb.Jt} {m:Jb.Md} {MA:Option Addr} {mc:Nat} {A1:Option Addr} {l1:List TW} {c1:Nat} {A2:Option Addr} {c2:Nat} {l2:List TW} {now:Int} {T:Jb.Jt×Int} (S:PN w W lo B s m MA mc A1 l1 A2 c2 l2) (hc1:l1.length≤c1) (hc1m:c1≤maxLen) (I:PI s m now l2) (MI:IntsAt w w.heap.size .u8 MA m.pl) (hm9:m.pl.length≤100000) (hany:(s.q.any fun w=>w.m.sq==m.sq)=false) (hT:T=tailT (Jb.meas s m) m now) (a:Act) (ha:Fr 110 [(1, .int .i64 now),(3, .pointer (some ⟨w.heap.size,0,none⟩)),(5, .pointer (some ⟨w.heap.size+1,0,none⟩)),(6, .pointer (some ⟨w.heap.size+1+1,0,none⟩)),(11, .slice A1 l1.length c1)] a):firstWp Tryz.prog pn14_code (bodyPost Tryz.prog Tryz.f46 (PutP T (l1.map TW.w) w)) a W:=by
 obtain ⟨s_,rfl,e1,e3,e5,e6,e11,_⟩:=ha
 rw [r110,e1,e3,e5,e6,e11]
 clear e1 e3 e5 e6 e11
 have hl2:l2.length≤200:=by have:=I.ok.1;rw [← S.hq] at this;simpa using this
 have hat2:∀ a∈l2,0≤a.w.at_∧a.w.at_≤562949953421312:=fun a ha=>by
  have h9:=((Jb.okQ_iff _ _ _).1 I.ok).2.1 a.w (by rw [← S.hq];exact List.mem_map.2 ⟨a,ha,rfl⟩)
  have h8:=h9.2.1
  have h7:=h9.2.2.1
  have h6:=I.n0
  omega
 obtain ⟨mz1,mz2,mz3,mz4,mz5,mz6⟩:=Jb.meas_q s m
 obtain ⟨s2,hs2⟩:∃ s2,s2=Jb.meas s m:=⟨_,rfl⟩
 have hz:=And.intro (And.intro I.z0 I.z1) (And.intro I.f0 I.f1)
 have hok2:=I.ok
 rw [← mz1] at hok2 hany
 rw [← hs2] at mz1 mz3 hT hz hok2 hany
 have k4:=fun (W:World) (hW:Wts W W.heap.size A2 l2)=>zkr s.least s.most s.now s.on s.zero s.first s.high s.done s.spread s.trans A2 l2 l2.length c2 s.late s.twice s.played m.sq m.ti m.mrk m.ty MA m.pl.length mc W rfl hl2 hW (by rw [I.nw];exact I.n0) (by rw [I.nw];exact I.n1) I.t0 I.t1 I.tr0 I.tr1 I.sp0 I.sp1 I.cf.1 I.cf.2.1 I.cf.2.2 hat2 m.pl
 unfold MeasR at k4
 rw [S.hq] at k4
 have k5:∀ (W:World),Wts W W.heap.size A2 l2→Calls Tryz.prog 105 #[.agg #[.int .i64 s.least, .int .i64 s.most, .int .i64 s.now, .bool s.on, .int .i64 s.zero, .int .i64 s.first, .int .i64 s.high, .int .i64 s.done, .int .i64 s.spread, .int .i64 s.trans, .slice A2 l2.length c2, .int .i64 s.late, .int .i64 s.twice, .int .i64 s.played], .agg #[.int .i64 m.sq, .int .i64 m.ti, .bool m.mrk, .int .u8 m.ty, .slice MA m.pl.length mc]] W fun e w'=>e = .returned (JV s2 A2 l2.length c2)∧Below W.heap.size W w':=by rw [hs2];exact k4
 have K5:=H9 k5
 have la0:0≤s2.late:=by rw [mz3];exact I.la0
 have la1:s2.late≤281474976710656:=by rw [mz3];exact I.la1
 have HT:=H9 hT
 have HQ:=H9 mz1
 have HO:=H9 hok2
 have HA:=H9 hany
 have HM:=H9 MI
 obtain ⟨n0,n1,t0,t1⟩:0≤now∧now≤281474976710656 ∧ -281474976710656≤m.ti∧m.ti≤281474976710656:=⟨I.n0,I.n1,I.t0,I.t1⟩
 obtain ⟨⟨z0,z1⟩,f0,f1⟩:=hz
 clear hT mz1 mz2 mz3 mz4 mz5 mz6 hs2 k4 k5 hok2 hany MI hat2 I
 refine zau ?_
 intro _ _
 go_wp2_with (first|(refine zab rfl 40 (.tmp 3) rfl (w.heap.size) 0 rfl 40 (JL s A2 l2.length c2) S.S.bs 14 _ Tryz.underlying40 zao (show 0+14≤14 by decide) #[.int .i64 s.least, .int .i64 s.most, .int .i64 s.now, .bool s.on, .int .i64 s.zero, .int .i64 s.first, .int .i64 s.high, .int .i64 s.done, .int .i64 s.spread, .int .i64 s.trans, .slice A2 l2.length c2, .int .i64 s.late, .int .i64 s.twice, .int .i64 s.played] (by rfl) rfl ?_)|(refine zab rfl 103 (.tmp 5) rfl (w.heap.size+1) 0 rfl 103 (ML m MA m.pl.length mc) S.S.bm 5 _ Tryz.underlying103 zcu (show 0+5≤5 by decide) #[.int .i64 m.sq, .int .i64 m.ti, .bool m.mrk, .int .u8 m.ty, .slice MA m.pl.length mc] (by rfl) rfl ?_)|fail)
 refine (K5.out _ S.S.q2.wts).mono ?_
 rintro e w5 ⟨rfl,hb5⟩
 replace S:=S.later hb5
 clear hb5 K5
 unfold JV
 go_upto_region 15 with (first|(refine zac rfl 40 (.tmp 3) (.tmp 68) rfl (w.heap.size) 0 rfl 40 (JL s A2 l2.length c2) S.S.bs (JL s2 A2 l2.length c2) rfl zao (show 0+14≤14 by decide) rfl (JL s2 A2 l2.length c2) rfl ?_;intro WB BB OB)|fail)
 replace S:=S.box (s':=s2) OB BB HQ.out.symm
 clear OB BB
 generalize hAT:s2.zero+(m.ti-s2.first) / 8=AT
 have k6:=H9 (zja s2.least s2.most s2.now s2.on s2.zero s2.first s2.high s2.done s2.spread s2.trans A2 l2.length c2 s2.late s2.twice s2.played m.ti WB z0 z1 f0 f1 t0 t1)
 rw [hAT] at k6
 have hpt:Jb.ptime s2 m.ti=AT:=hAT
 unfold tailT at HT
 rw [hpt] at HT
 have hab : -1200000000000000≤AT∧AT≤1200000000000000:=by omega
 clear hAT hpt
 obtain ⟨at0,at1⟩:=hab
 have m1:WB.cell? ⟨w.heap.size+1,1,none⟩=some (.int .i64 m.ti):=S.S.bm.at 1 _ rfl
 go_wp2_with (first|(refine zab rfl 40 (.tmp 3) rfl (w.heap.size) 0 rfl 40 (JL s2 A2 l2.length c2) S.S.bs 14 _ Tryz.underlying40 zao (show 0+14≤14 by decide) #[.int .i64 s2.least, .int .i64 s2.most, .int .i64 s2.now, .bool s2.on, .int .i64 s2.zero, .int .i64 s2.first, .int .i64 s2.high, .int .i64 s2.done, .int .i64 s2.spread, .int .i64 s2.trans, .slice A2 l2.length c2, .int .i64 s2.late, .int .i64 s2.twice, .int .i64 s2.played] (by rfl) rfl ?_)|fail)
 refine k6.out.mono ?_
 rintro e w6 ⟨rfl,hb6⟩
 replace S:=S.later hb6
 clear hb6 k6 m1
 by_cases hla:AT≤now
 · have ht:T=({ s2 with late:=s2.late+1 }, 2):=by rw [HT.out];exact if_pos hla
   clear HT
   have HT:=H9 ht
   have hlb:s2.late+1≤9000000000000000000:=by omega
   clear ht
   have b11:w6.cell? ⟨w.heap.size,11,none⟩=some (.int .i64 (s2).late):=S.S.bs.at 11 _ rfl
   have bfz:=S.S.bs.frozen
   go_upto_region 18 with fail
   clear b11 bfz
   replace S:=S.put 11 (.int .i64 (s2.late+1)) { s2 with late:=s2.late+1 }
   generalize w6.setCell _ _=W8 at S ⊢
   go_wp2_with (first|(refine zab rfl 40 (.tmp 3) rfl (w.heap.size) 0 rfl 40 (JL { s2 with late:=s2.late+1 } A2 l2.length c2) S.S.bs 14 _ Tryz.underlying40 zao (show 0+14≤14 by decide) (JL { s2 with late:=s2.late+1 } A2 l2.length c2).toArray (by rfl) rfl ?_)|(refine zac rfl 40 (.tmp 6) (.tmp 81) rfl (w.heap.size+1+1) 0 rfl 40 Z14 S.S.br (JL { s2 with late:=s2.late+1 } A2 l2.length c2) rfl zao (show 0+14≤14 by decide) rfl (JL { s2 with late:=s2.late+1 } A2 l2.length c2) rfl ?_;intro WB BB OB)|fail)
   exact bodyPost_ret (v := .tuple #[JV { s2 with late:=s2.late+1 } A2 l2.length c2, .slice A1 l1.length c1, .int .u8 2, .int .u8 0]) (zar Tryz.results46 rfl (run_loadVar_row (P:=Tryz.prog) _ _ _ _ _ _ _ BB Tryz.underlying40 rfl (by kernel_rfl)) rfl rfl rfl) rfl (S.done OB hc1 hc1m HT.out)
 replace hla:now<AT:=Int.not_le.1 hla
 by_cases hfar:now+120000<AT
 · have ht:T=(s2,5):=by rw [HT.out];rw [if_neg (Int.not_le.2 hla)];exact if_pos hfar
   clear HT
   have HT:=H9 ht
   clear ht
   go_wp2_with (first|(refine zab rfl 40 (.tmp 3) rfl (w.heap.size) 0 rfl 40 (JL s2 A2 l2.length c2) S.S.bs 14 _ Tryz.underlying40 zao (show 0+14≤14 by decide) (JL s2 A2 l2.length c2).toArray (by rfl) rfl ?_)|(refine zac rfl 40 (.tmp 6) (.tmp 88) rfl (w.heap.size+1+1) 0 rfl 40 Z14 S.S.br (JL s2 A2 l2.length c2) rfl zao (show 0+14≤14 by decide) rfl (JL s2 A2 l2.length c2) rfl ?_;intro WB BB OB)|fail)
   exact bodyPost_ret (v := .tuple #[JV s2 A2 l2.length c2, .slice A1 l1.length c1, .int .u8 5, .int .u8 0]) (zar Tryz.results46 rfl (run_loadVar_row (P:=Tryz.prog) _ _ _ _ _ _ _ BB Tryz.underlying40 rfl (by kernel_rfl)) rfl rfl rfl) rfl (S.done OB hc1 hc1m HT.out)
 replace hfar:AT≤now+120000:=Int.not_lt.1 hfar
 have ht:T=({ s2 with q:=Jb.ins s2.q ⟨AT,m⟩ }, 1):=by rw [HT.out];rw [if_neg (Int.not_le.2 hla)];exact if_neg (Int.not_lt.2 hfar)
 clear HT
 have HT:=H9 ht
 clear ht
 go_upto_region 21 with fail
 refine zas (by assumption) ?_
 exact zum S hc1 hc1m HM.out hm9 HO.out HA.out HT.out _ (Fr.mk rfl ⟨rfl,rfl,rfl,rfl,rfl,rfl,trivial⟩)
theorem zwa {w W:World} {lo B:Nat} {s:Jb.Jt} {m:Jb.Md} {MA:Option Addr} {mc:Nat} {A1:Option Addr} {l1:List TW} {c1:Nat} {A2:Option Addr} {c2:Nat} {l2:List TW} {now:Int} {T:Jb.Jt×Int} (S:PN w W lo B s m MA mc A1 l1 A2 c2 l2) (hc1:l1.length≤c1) (hc1m:c1≤maxLen) (I:PI s m now l2) (MI:IntsAt w w.heap.size .u8 MA m.pl) (hm9:m.pl.length≤100000) (hT:T=Jb.put0 s m) (a:Act) (ha:Fr 110 [(1, .int .i64 now),(3, .pointer (some ⟨w.heap.size,0,none⟩)),(5, .pointer (some ⟨w.heap.size+1,0,none⟩)),(6, .pointer (some ⟨w.heap.size+1+1,0,none⟩)),(11, .slice A1 l1.length c1)] a):firstWp Tryz.prog pn5_code (bodyPost Tryz.prog Tryz.f46 (PutP T (l1.map TW.w) w)) a W:=by
 obtain ⟨s_,rfl,e1,e3,e5,e6,e11,_⟩:=ha
 rw [r110,e1,e3,e5,e6,e11]
 clear e1 e3 e5 e6 e11
 have hl2:l2.length≤200:=by have:=I.ok.1;rw [← S.hq] at this;simpa using this
 have hlq:s.q.length=l2.length:=by rw [← S.hq,List.length_map]
 have k3:=zjb A2 l2 l2.length c2 (w.heap.size+1) m.sq W rfl (by omega) S.S.q2.wts (S.S.bm.at 0 _ rfl) S.S.bm.lt
 rw [S.hq] at k3
 obtain ⟨any,hany⟩:∃ b,b=(s.q.any fun x=>x.m.sq==m.sq):=⟨_,rfl⟩
 rw [← hany] at k3
 replace k3:=H9 k3
 have tw0:=I.tw0
 have tw1:s.twice+1≤9000000000000000000:=Int.le_trans (Int.add_le_add_right I.tw1 1) (by decide)
 have la0:=I.la0
 have la1:s.late+1≤9000000000000000000:=Int.le_trans (Int.add_le_add_right I.la1 1) (by decide)
 have HI:=H9 I
 have HY:=H9 hany.symm
 have HT:=H9 hT
 have HM:=H9 MI
 clear I hany hT MI
 refine zau ?_
 intro _ _
 have b10:W.cell? ⟨w.heap.size,10,none⟩=some (.slice A2 l2.length c2):=S.S.bs.at 10 _ rfl
 go_wp2_with fail
 refine k3.out.mono ?_
 rintro e w4 ⟨rfl,hb4⟩
 replace S:=S.later hb4
 clear hb4 k3 b10
 cases any
 rotate_left
 · have ht:T=({ s with twice:=s.twice+1 }, 3):=by rw [HT.out];exact zgz s m HY.out
   clear HT
   have HT:=H9 ht
   clear ht hlq
   have b12:w4.cell? ⟨w.heap.size,12,none⟩=some (.int .i64 s.twice):=S.S.bs.at 12 _ rfl
   have bfz:=S.S.bs.frozen
   go_upto_region 8 with fail
   clear b12 bfz
   replace S:=S.put 12 (.int .i64 (s.twice+1)) { s with twice:=s.twice+1 }
   generalize w4.setCell _ _=W8 at S ⊢
   go_wp2_with (first|(refine zab rfl 40 (.tmp 3) rfl (w.heap.size) 0 rfl 40 (JL { s with twice:=s.twice+1 } A2 l2.length c2) S.S.bs 14 _ Tryz.underlying40 zao (show 0+14≤14 by decide) (JL { s with twice:=s.twice+1 } A2 l2.length c2).toArray (by rfl) rfl ?_)|(refine zac rfl 40 (.tmp 6) (.tmp 41) rfl (w.heap.size+1+1) 0 rfl 40 Z14 S.S.br (JL { s with twice:=s.twice+1 } A2 l2.length c2) rfl zao (show 0+14≤14 by decide) rfl (JL { s with twice:=s.twice+1 } A2 l2.length c2) rfl ?_;intro WB BB OB)|fail)
   exact bodyPost_ret (v := .tuple #[JV { s with twice:=s.twice+1 } A2 l2.length c2, .slice A1 l1.length c1, .int .u8 3, .int .u8 0]) (zar Tryz.results46 rfl (run_loadVar_row (P:=Tryz.prog) _ _ _ _ _ _ _ BB Tryz.underlying40 rfl (by kernel_rfl)) rfl rfl rfl) rfl (S.done OB hc1 hc1m HT.out)
 obtain ⟨on,hon⟩:∃ on,on=s.on:=⟨_,rfl⟩
 have b3:w4.cell? ⟨w.heap.size,3,none⟩=some (.bool on):=by rw [hon];exact S.S.bs.at 3 _ rfl
 have b7:w4.cell? ⟨w.heap.size,7,none⟩=some (.int .i64 s.done):=S.S.bs.at 7 _ rfl
 have b10:w4.cell? ⟨w.heap.size,10,none⟩=some (.slice A2 l2.length c2):=S.S.bs.at 10 _ rfl
 have b11:w4.cell? ⟨w.heap.size,11,none⟩=some (.int .i64 s.late):=S.S.bs.at 11 _ rfl
 have m0:w4.cell? ⟨w.heap.size+1,0,none⟩=some (.int .i64 m.sq):=S.S.bm.at 0 _ rfl
 have bfz:=S.S.bs.frozen
 by_cases hlate:on=true∧m.sq≤s.done
 · have ht:T=({ s with late:=s.late+1 }, 2):=by rw [HT.out];exact zji s m HY.out (by rw [← hon];exact hlate)
   clear HT
   have HT:=H9 ht
   clear ht hon hlq
   obtain ⟨rfl,hls⟩:=hlate
   go_upto_region 11 with fail
   clear b3 b7 m0 b10 b11 bfz
   replace S:=S.put 11 (.int .i64 (s.late+1)) { s with late:=s.late+1 }
   generalize w4.setCell _ _=W8 at S ⊢
   go_wp2_with (first|(refine zab rfl 40 (.tmp 3) rfl (w.heap.size) 0 rfl 40 (JL { s with late:=s.late+1 } A2 l2.length c2) S.S.bs 14 _ Tryz.underlying40 zao (show 0+14≤14 by decide) (JL { s with late:=s.late+1 } A2 l2.length c2).toArray (by rfl) rfl ?_)|(refine zac rfl 40 (.tmp 6) (.tmp 57) rfl (w.heap.size+1+1) 0 rfl 40 Z14 S.S.br (JL { s with late:=s.late+1 } A2 l2.length c2) rfl zao (show 0+14≤14 by decide) rfl (JL { s with late:=s.late+1 } A2 l2.length c2) rfl ?_;intro WB BB OB)|fail)
   exact bodyPost_ret (v := .tuple #[JV { s with late:=s.late+1 } A2 l2.length c2, .slice A1 l1.length c1, .int .u8 2, .int .u8 0]) (zar Tryz.results46 rfl (run_loadVar_row (P:=Tryz.prog) _ _ _ _ _ _ _ BB Tryz.underlying40 rfl (by kernel_rfl)) rfl rfl rfl) rfl (S.done OB hc1 hc1m HT.out)
 have hlt:¬(s.on=true∧m.sq≤s.done):=by rw [← hon];exact hlate
 have hls:on=true→¬m.sq≤s.done:=fun h1 h2=>hlate ⟨h1,h2⟩
 have HLS:=H9 hls
 clear hls hlate
 by_cases qf:200≤l2.length
 · have ht:T=(s,4):=by rw [HT.out];exact zjj s m HY.out hlt (by rw [hlq];exact qf)
   clear HT
   have HT:=H9 ht
   have hf4:(200:Int)≤(l2.length:Int):=by omega
   clear ht hon hlq hlt
   cases on
   · go_upto_region 13 with fail
     clear b3 b7 m0 b10 b11 bfz hf4
     go_wp2_with (first|(refine zab rfl 40 (.tmp 3) rfl (w.heap.size) 0 rfl 40 (JL s A2 l2.length c2) S.S.bs 14 _ Tryz.underlying40 zao (show 0+14≤14 by decide) (JL s A2 l2.length c2).toArray (by rfl) rfl ?_)|(refine zac rfl 40 (.tmp 6) (.tmp 64) rfl (w.heap.size+1+1) 0 rfl 40 Z14 S.S.br (JL s A2 l2.length c2) rfl zao (show 0+14≤14 by decide) rfl (JL s A2 l2.length c2) rfl ?_;intro WB BB OB)|fail)
     exact bodyPost_ret (v := .tuple #[JV s A2 l2.length c2, .slice A1 l1.length c1, .int .u8 4, .int .u8 0]) (zar Tryz.results46 rfl (run_loadVar_row (P:=Tryz.prog) _ _ _ _ _ _ _ BB Tryz.underlying40 rfl (by kernel_rfl)) rfl rfl rfl) rfl (S.done OB hc1 hc1m HT.out)
   · have hls:=HLS.out rfl
     go_upto_region 13 with fail
     clear b3 b7 m0 b10 b11 bfz hf4
     go_wp2_with (first|(refine zab rfl 40 (.tmp 3) rfl (w.heap.size) 0 rfl 40 (JL s A2 l2.length c2) S.S.bs 14 _ Tryz.underlying40 zao (show 0+14≤14 by decide) (JL s A2 l2.length c2).toArray (by rfl) rfl ?_)|(refine zac rfl 40 (.tmp 6) (.tmp 64) rfl (w.heap.size+1+1) 0 rfl 40 Z14 S.S.br (JL s A2 l2.length c2) rfl zao (show 0+14≤14 by decide) rfl (JL s A2 l2.length c2) rfl ?_;intro WB BB OB)|fail)
     exact bodyPost_ret (v := .tuple #[JV s A2 l2.length c2, .slice A1 l1.length c1, .int .u8 4, .int .u8 0]) (zar Tryz.results46 rfl (run_loadVar_row (P:=Tryz.prog) _ _ _ _ _ _ _ BB Tryz.underlying40 rfl (by kernel_rfl)) rfl rfl rfl) rfl (S.done OB hc1 hc1m HT.out)
 have ht:T=tailT (Jb.meas s m) m now:=by rw [HT.out];exact znb s m now HI.out.nw HY.out hlt (by rw [hlq];exact qf)
 clear HT
 have HT:=H9 ht
 have hf4:(l2.length:Int)<(200:Int):=by omega
 clear ht hon hlq hlt
 cases on
 · go_upto_region 14 with fail
   refine zas (by assumption) ?_
   exact zph S hc1 hc1m HI.out HM.out hm9 HY.out HT.out _ (Fr.mk rfl ⟨rfl,rfl,rfl,rfl,rfl,trivial⟩)
 · have hls:=HLS.out rfl
   go_upto_region 14 with fail
   refine zas (by assumption) ?_
   exact zph S hc1 hc1m HI.out HM.out hm9 HY.out HT.out _ (Fr.mk rfl ⟨rfl,rfl,rfl,rfl,rfl,trivial⟩)
structure PB0 (w W:World) (s:Jb.Jt) (A:Option Addr) (n c:Nat) (m:Jb.Md) (MA:Option Addr) (mc:Nat):Prop where
 bs:Blk W w.heap.size 40 (JL s A n c).toArray
 bm:Blk W (w.heap.size+1) 103 (ML m MA m.pl.length mc).toArray
 br:Blk W (w.heap.size+1+1) 40 Z14.toArray
 u:Bel w W
theorem PB0.later {w W W':World} {s:Jb.Jt} {A:Option Addr} {n c:Nat} {m:Jb.Md} {MA:Option Addr} {mc:Nat} (h:PB0 w W s A n c m MA mc) (hb:Below W.heap.size W W'):PB0 w W' s A n c m MA mc:=⟨h.bs.later hb,h.bm.later hb,h.br.later hb,h.u.later hb⟩
def RunX (X:Jb.Jt) (D:List Jb.Wt) (w:World) (e:Ending) (w':World):Prop :=
 ∃ (A1:Option Addr) (c1:Nat) (l1:List TW) (A2:Option Addr) (c2:Nat) (l2:List TW) (B:Nat),e = .returned (.tuple #[JV X A2 l2.length c2, .slice A1 l1.length c1])∧l1.map TW.w=D∧l2.map TW.w=X.q∧WtsIn w' w.heap.size B A1 l1∧QOwn w' B A2 l2.length c2 l2∧w.heap.size≤B∧B≤w'.heap.size∧(l1.length≤c1∧c1≤maxLen)∧Below w.heap.size w w'
theorem PutP.of {T:Jb.Jt×Int} {D:List Jb.Wt} {s:Jb.Jt} {now:Int} {m:Jb.Md} {w w':World} {e:Ending} (h:PutP T D w e w') (hp:Jb.put s now m=(T.1,D,T.2,0)):JPutW s now m w e w':=by
 obtain ⟨A1,c1,l1,A2,c2,l2,rfl,h1,h2,h3⟩:=h
 exact ⟨A1,c1,l1,A2,c2,l2,by rw [hp],by rw [hp];exact h1,by rw [hp];exact h2,h3⟩
theorem zun (s:Jb.Jt) (A:Option Addr) (l:List TW) (c:Nat) (now:Int) (m:Jb.Md) (MA:Option Addr) (mc:Nat) (w:World) (hq:l.map TW.w=s.q) (hl:l.length≤100000) (hcap:l.length≤c) (hcm:c≤maxLen) (hA:Wts w w.heap.size A l) (hK:∀ a∈l,I64 a.w.m.sq) (hm9:m.pl.length≤100000) (hMI:IntsAt w w.heap.size .u8 MA m.pl) (r:Int) (hr:r=Jb.chk s now (decide m.ok)) (hr0:¬r=0):Calls Tryz.prog 46 #[.agg #[.int .i64 s.least, .int .i64 s.most, .int .i64 s.now, .bool s.on, .int .i64 s.zero, .int .i64 s.first, .int .i64 s.high, .int .i64 s.done, .int .i64 s.spread, .int .i64 s.trans, .slice A l.length c, .int .i64 s.late, .int .i64 s.twice, .int .i64 s.played], .int .i64 now, .agg #[.int .i64 m.sq, .int .i64 m.ti, .bool m.mrk, .int .u8 m.ty, .slice MA m.pl.length mc]] w (JPutW s now m w):=by
 have hput:Jb.put s now m=(Jb.Jt.none,[],0,r):=by unfold Jb.put;rw [← hr,if_neg hr0]
 have HPUT:=H9 hput
 clear hput
 have S:PB0 w (((w.alloc (.cells #[.int .i64 s.least, .int .i64 s.most, .int .i64 s.now, .bool s.on, .int .i64 s.zero, .int .i64 s.first, .int .i64 s.high, .int .i64 s.done, .int .i64 s.spread, .int .i64 s.trans, .slice A l.length c, .int .i64 s.late, .int .i64 s.twice, .int .i64 s.played] 40)).alloc (.cells #[.int .i64 m.sq, .int .i64 m.ti, .bool m.mrk, .int .u8 m.ty, .slice MA m.pl.length mc] 103)).alloc (.cells Z14.toArray 40)) s A l.length c m MA mc:=⟨((Blk.new w _ _).push _).push _,(Blk.new1 _ _ _ _).push _,Blk.new2 _ _ _ _ _,(((Bel.refl w).push _).push _).push _⟩
 have k1:=H9 fun (W:World) (hW:Bel w W)=>zfr s.least s.most s.now s.on s.zero s.first s.high s.done s.spread s.trans A l l.length c s.late s.twice s.played now m.sq m.ti m.mrk m.ty MA m.pl.length mc W rfl hl ((hA.below hW).more hW.size) hK (decide m.ok) rfl r (by rw [hq];exact hr)
 have hne:(r != 0)=true:=by simpa using hr0
 clear hr hA hMI hK hcap hcm hr0
 go_enter Tryz.func46,Tryz.ntmps46
 go_upto_region 1 with fail
 change Code.wp _ _ _ _ (((w.alloc (.cells #[.int .i64 s.least, .int .i64 s.most, .int .i64 s.now, .bool s.on, .int .i64 s.zero, .int .i64 s.first, .int .i64 s.high, .int .i64 s.done, .int .i64 s.spread, .int .i64 s.trans, .slice A l.length c, .int .i64 s.late, .int .i64 s.twice, .int .i64 s.played] 40)).alloc (.cells #[.int .i64 m.sq, .int .i64 m.ti, .bool m.mrk, .int .u8 m.ty, .slice MA m.pl.length mc] 103)).alloc (.cells Z14.toArray 40))
 generalize ((w.alloc _).alloc _).alloc _=W0 at S ⊢
 go_wp2_with (first|(refine zab rfl 40 (.tmp 3) rfl (w.heap.size) 0 rfl 40 (JL s A l.length c) S.bs 14 _ Tryz.underlying40 zao (show 0+14≤14 by decide) #[.int .i64 s.least, .int .i64 s.most, .int .i64 s.now, .bool s.on, .int .i64 s.zero, .int .i64 s.first, .int .i64 s.high, .int .i64 s.done, .int .i64 s.spread, .int .i64 s.trans, .slice A l.length c, .int .i64 s.late, .int .i64 s.twice, .int .i64 s.played] (by rfl) rfl ?_)|(refine zab rfl 103 (.tmp 5) rfl (w.heap.size+1) 0 rfl 103 (ML m MA m.pl.length mc) S.bm 5 _ Tryz.underlying103 zcu (show 0+5≤5 by decide) #[.int .i64 m.sq, .int .i64 m.ti, .bool m.mrk, .int .u8 m.ty, .slice MA m.pl.length mc] (by rfl) rfl ?_)|fail)
 refine (k1.out _ S.u).mono ?_
 rintro e w1 ⟨rfl,hb1⟩
 replace S:=S.later hb1
 clear hb1 k1
 go_wp2_with (first|(refine zac rfl 40 (.tmp 6) (.tmp 23) rfl (w.heap.size+1+1) 0 rfl 40 Z14 S.br Z14 rfl zao (show 0+14≤14 by decide) rfl Z14 rfl ?_;intro WB BB OB)|fail)
 exact bodyPost_ret (v := .tuple #[JV Jb.Jt.none none 0 0, .slice none 0 0, .int .u8 0, .int .u8 r]) (zar Tryz.results46 rfl (run_loadVar_row (P:=Tryz.prog) _ _ _ _ _ _ _ BB Tryz.underlying40 rfl (by kernel_rfl)) rfl rfl rfl) rfl ⟨none,0,[],none,0,[],by rw [HPUT.out];rfl,by rw [HPUT.out];rfl,by rw [HPUT.out];rfl,WtsIn.empty,WtsIn.empty,Nat.le_refl _,Nat.zero_le _,OB.bel S.u (by omega),Nat.le_refl _,Nat.zero_le _⟩
theorem zrs (s:Jb.Jt) (A:Option Addr) (l:List TW) (c:Nat) (now:Int) (m:Jb.Md) (MA:Option Addr) (mc:Nat) (w:World) (hq:l.map TW.w=s.q) (hl:l.length≤100000) (hcap:l.length≤c) (hcm:c≤maxLen) (hA:Wts w w.heap.size A l) (hK:∀ a∈l,I64 a.w.m.sq) (hm9:m.pl.length≤100000) (hMI:IntsAt w w.heap.size .u8 MA m.pl) (hr:Jb.chk s now (decide m.ok)=0):Calls Tryz.prog 46 #[.agg #[.int .i64 s.least, .int .i64 s.most, .int .i64 s.now, .bool s.on, .int .i64 s.zero, .int .i64 s.first, .int .i64 s.high, .int .i64 s.done, .int .i64 s.spread, .int .i64 s.trans, .slice A l.length c, .int .i64 s.late, .int .i64 s.twice, .int .i64 s.played], .int .i64 now, .agg #[.int .i64 m.sq, .int .i64 m.ti, .bool m.mrk, .int .u8 m.ty, .slice MA m.pl.length mc]] w (PutP (Jb.put0 (Jb.run0 s now) m) (Jb.due now s.q) w):=by
 have S:PB0 w (((w.alloc (.cells #[.int .i64 s.least, .int .i64 s.most, .int .i64 s.now, .bool s.on, .int .i64 s.zero, .int .i64 s.first, .int .i64 s.high, .int .i64 s.done, .int .i64 s.spread, .int .i64 s.trans, .slice A l.length c, .int .i64 s.late, .int .i64 s.twice, .int .i64 s.played] 40)).alloc (.cells #[.int .i64 m.sq, .int .i64 m.ti, .bool m.mrk, .int .u8 m.ty, .slice MA m.pl.length mc] 103)).alloc (.cells Z14.toArray 40)) s A l.length c m MA mc:=⟨((Blk.new w _ _).push _).push _,(Blk.new1 _ _ _ _).push _,Blk.new2 _ _ _ _ _,(((Bel.refl w).push _).push _).push _⟩
 have k1:=H9 fun (W:World) (hW:Bel w W)=>zfr s.least s.most s.now s.on s.zero s.first s.high s.done s.spread s.trans A l l.length c s.late s.twice s.played now m.sq m.ti m.mrk m.ty MA m.pl.length mc W rfl hl ((hA.below hW).more hW.size) hK (decide m.ok) rfl 0 (by rw [hq];exact hr.symm)
 obtain ⟨hok,hnow,hfm,hlt⟩:=zew hr
 have hmk:m.ok:=decide_eq_true_iff.1 hfm
 have hpf:=zjh s m now hok hmk hlt hnow
 obtain ⟨hl2,hpl⟩:=zhv (l:=l) hok hq
 have k2:=fun (W:World) (hW:Bel w W)=>zqr s.least s.most s.now s.on s.zero s.first s.high s.done s.spread s.trans A l l.length c s.late s.twice s.played now W rfl hl2 hcap hcm W.heap.size (Nat.le_refl _) ((hA.below hW).more hW.size) (fun a ha=>Nat.le_trans (hpl a ha) (by omega)) (by have:=hok.2.2.1.2.2;omega)
 have k3:∀ (W:World),Bel w W→Calls Tryz.prog 102 #[.agg #[.int .i64 s.least, .int .i64 s.most, .int .i64 s.now, .bool s.on, .int .i64 s.zero, .int .i64 s.first, .int .i64 s.high, .int .i64 s.done, .int .i64 s.spread, .int .i64 s.trans, .slice A l.length c, .int .i64 s.late, .int .i64 s.twice, .int .i64 s.played], .int .i64 now] W (RunX (Jb.run0 s now) (Jb.due now s.q) W):=fun W hW=>by
  have h:=k2 W hW
  rw [hq] at h
  exact h
 unfold RunX at k3
 clear k2
 have k2:=H9 k3
 clear k3
 have I0:∀ l2:List TW,PI (Jb.run0 s now) m now l2:=fun l2=>by
  obtain ⟨⟨⟨a0,a1⟩,⟨a2,a3⟩,⟨a4,a5⟩,⟨a6,a7⟩,_,_,a8,a9⟩,cc,⟨⟨d0,d1⟩,⟨d2,d3⟩,_⟩,_⟩:=hok
  obtain ⟨_,⟨g0,g1⟩,_⟩:=hmk
  exact ⟨rfl,Int.le_trans a0 hlt,hnow,g0,g1,d0,d1,d2,d3,a8,a9,a4,a5,cc,hpf.2.2,hpf.1.1,hpf.1.2,hpf.2.1.1,hpf.2.1.2⟩
 have HI:=H9 I0
 have HMI:=H9 hMI
 generalize Jb.run0 s now=X at *
 generalize Jb.due now s.q=D at *
 clear hr hA hMI hK hcap hcm hok hnow hmk hlt hfm hpf I0 hl2 hpl
 go_enter Tryz.func46,Tryz.ntmps46
 go_upto_region 1 with fail
 change Code.wp _ _ _ _ (((w.alloc (.cells #[.int .i64 s.least, .int .i64 s.most, .int .i64 s.now, .bool s.on, .int .i64 s.zero, .int .i64 s.first, .int .i64 s.high, .int .i64 s.done, .int .i64 s.spread, .int .i64 s.trans, .slice A l.length c, .int .i64 s.late, .int .i64 s.twice, .int .i64 s.played] 40)).alloc (.cells #[.int .i64 m.sq, .int .i64 m.ti, .bool m.mrk, .int .u8 m.ty, .slice MA m.pl.length mc] 103)).alloc (.cells Z14.toArray 40))
 generalize ((w.alloc _).alloc _).alloc _=W0 at S ⊢
 go_wp2_with (first|(refine zab rfl 40 (.tmp 3) rfl (w.heap.size) 0 rfl 40 (JL s A l.length c) S.bs 14 _ Tryz.underlying40 zao (show 0+14≤14 by decide) #[.int .i64 s.least, .int .i64 s.most, .int .i64 s.now, .bool s.on, .int .i64 s.zero, .int .i64 s.first, .int .i64 s.high, .int .i64 s.done, .int .i64 s.spread, .int .i64 s.trans, .slice A l.length c, .int .i64 s.late, .int .i64 s.twice, .int .i64 s.played] (by rfl) rfl ?_)|(refine zab rfl 103 (.tmp 5) rfl (w.heap.size+1) 0 rfl 103 (ML m MA m.pl.length mc) S.bm 5 _ Tryz.underlying103 zcu (show 0+5≤5 by decide) #[.int .i64 m.sq, .int .i64 m.ti, .bool m.mrk, .int .u8 m.ty, .slice MA m.pl.length mc] (by rfl) rfl ?_)|fail)
 refine (k1.out _ S.u).mono ?_
 rintro e w1 ⟨rfl,hb1⟩
 replace S:=S.later hb1
 clear hb1 k1
 go_wp2_with (first|(refine zab rfl 40 (.tmp 3) rfl (w.heap.size) 0 rfl 40 (JL s A l.length c) S.bs 14 _ Tryz.underlying40 zao (show 0+14≤14 by decide) #[.int .i64 s.least, .int .i64 s.most, .int .i64 s.now, .bool s.on, .int .i64 s.zero, .int .i64 s.first, .int .i64 s.high, .int .i64 s.done, .int .i64 s.spread, .int .i64 s.trans, .slice A l.length c, .int .i64 s.late, .int .i64 s.twice, .int .i64 s.played] (by rfl) rfl ?_)|fail)
 refine (k2.out _ S.u).mono ?_
 rintro e w2 ⟨A1,c1,l1,A2,c2,l2,B,rfl,hm1,hm2,hw1,hq2,hB1,hB2,hca,qb⟩
 subst hm1
 have hs1:=S.br.lt
 have HS:=H9 (And.intro hw1 hq2)
 replace S:=S.later qb
 clear qb k2 hw1 hq2
 unfold JV
 go_upto_region 5 with (first|(refine zac rfl 40 (.tmp 3) (.tmp 29) rfl (w.heap.size) 0 rfl 40 (JL s A l.length c) S.bs (JL X A2 l2.length c2) rfl zao (show 0+14≤14 by decide) rfl (JL X A2 l2.length c2) rfl ?_;intro WB BB OB)|fail)
 have hs2:=OB.2
 have S2:PN w WB w1.heap.size B X m MA mc A1 l1 A2 c2 l2:=⟨⟨BB,OB.blk S.bm (by omega),OB.blk S.br (by omega),OB.bel S.u (Nat.le_refl _),HS.out.1.keep fun p g1 g2=>OB.cell (by omega),HS.out.2.onlyB OB (by omega),hs1,hB1,by omega⟩,hm2⟩
 refine zas (by assumption) ?_
 exact zwa S2 hca.1 hca.2 (HI.out _) HMI.out hm9 rfl _ (Fr.mk rfl ⟨rfl,rfl,rfl,rfl,rfl,trivial⟩)
theorem zrt (s:Jb.Jt) (A:Option Addr) (l:List TW) (n c:Nat) (now:Int) (m:Jb.Md) (MA:Option Addr) (mn mc:Nat) (w:World) (hq:l.map TW.w=s.q) (hn:l.length=n) (hl:n≤100000) (hcap:n≤c) (hcm:c≤maxLen) (hA:Wts w w.heap.size A l) (hK:∀ a∈l,I64 a.w.m.sq) (hmn:m.pl.length=mn) (hm9:mn≤100000) (hMI:IntsAt w w.heap.size .u8 MA m.pl):Calls Tryz.prog 46 #[.agg #[.int .i64 s.least, .int .i64 s.most, .int .i64 s.now, .bool s.on, .int .i64 s.zero, .int .i64 s.first, .int .i64 s.high, .int .i64 s.done, .int .i64 s.spread, .int .i64 s.trans, .slice A n c, .int .i64 s.late, .int .i64 s.twice, .int .i64 s.played], .int .i64 now, .agg #[.int .i64 m.sq, .int .i64 m.ti, .bool m.mrk, .int .u8 m.ty, .slice MA mn mc]] w (JPutW s now m w):=by
 subst hn
 subst hmn
 by_cases hr0:Jb.chk s now (decide m.ok)=0
 · exact (zrs s A l c now m MA mc w hq hl hcap hcm hA hK hm9 hMI hr0).mono fun e w' h=>h.of (by unfold Jb.put;rw [if_pos hr0])
 · exact zun s A l c now m MA mc w hq hl hcap hcm hA hK hm9 hMI _ rfl hr0
theorem zru (s:Jb.Jt) (A:Option Addr) (l:List TW) (n c:Nat) (now:Int) (w:World) (hq:l.map TW.w=s.q) (hn:l.length=n) (hl:n≤100000) (hcap:n≤c) (hcm:c≤maxLen) (hA:Wts w w.heap.size A l) (hK:∀ a∈l,I64 a.w.m.sq):Calls Tryz.prog 95 #[.agg #[.int .i64 s.least, .int .i64 s.most, .int .i64 s.now, .bool s.on, .int .i64 s.zero, .int .i64 s.first, .int .i64 s.high, .int .i64 s.done, .int .i64 s.spread, .int .i64 s.trans, .slice A n c, .int .i64 s.late, .int .i64 s.twice, .int .i64 s.played], .int .i64 now] w (JRunW s now w):=by
 obtain ⟨le,mo,nw,on,ze,fi,hi,dn,sp,tr,q,la,tw,pd⟩:=s
 simp only at hq ⊢
 subst hq
 exact ztg le mo nw on ze fi hi dn sp tr A l n c la tw pd now w hn hl hcap hcm hA hK
theorem zrv (s:Jb.Jt) (A:Option Addr) (l:List TW) (n c:Nat) (w:World) (hq:l.map TW.w=s.q) (hn:l.length=n) (hl:n≤100000) (hA:Wts w w.heap.size A l) (hK:∀ a∈l,I64 a.w.m.sq) (v:Bool) (hv:v=Jb.valid s):Calls Tryz.prog 65 #[.agg #[.int .i64 s.least, .int .i64 s.most, .int .i64 s.now, .bool s.on, .int .i64 s.zero, .int .i64 s.first, .int .i64 s.high, .int .i64 s.done, .int .i64 s.spread, .int .i64 s.trans, .slice A n c, .int .i64 s.late, .int .i64 s.twice, .int .i64 s.played]] w fun e w'=>e = .returned (.bool v)∧Below w.heap.size w w':=by
 obtain ⟨le,mo,nw,on,ze,fi,hi,dn,sp,tr,q,la,tw,pd⟩:=s
 simp only at hq ⊢
 subst hq
 exact zjf le mo nw on ze fi hi dn sp tr A l n c la tw pd w hn hl hA hK v hv
def NewR (l m:Int) (w:World) (e:Ending) (w':World):Prop:=e = .returned (.tuple #[JV (Jb.new l m).1 none 0 0, .int .u8 (Jb.new l m).2])∧Below w.heap.size w w'
theorem zuo (l m:Int) (w:World):Calls Tryz.prog 62 #[.agg #[.int .i64 l, .int .i64 m]] w (NewR l m w):=by
 obtain ⟨cv,hcv⟩:∃ cv,cv=decide (Jb.cfg l m):=⟨_,rfl⟩
 have k1:=H9 fun W=>zgv l m W cv hcv
 have HC:=H9 hcv
 clear hcv
 have U0:=H9 (((Bel.refl w).push (.cells #[.int .i64 l, .int .i64 m] 37)).push (.cells #[.int .i64 0, .int .i64 0, .int .i64 0, .bool false, .int .i64 0, .int .i64 0, .int .i64 0, .int .i64 0, .int .i64 0, .int .i64 0, .slice none 0 0, .int .i64 0, .int .i64 0, .int .i64 0] 40))
 have BC:=H9 ((Blk.new w 37 #[.int .i64 l, .int .i64 m]).push (.cells #[.int .i64 0, .int .i64 0, .int .i64 0, .bool false, .int .i64 0, .int .i64 0, .int .i64 0, .int .i64 0, .int .i64 0, .int .i64 0, .slice none 0 0, .int .i64 0, .int .i64 0, .int .i64 0] 40))
 have BR:=H9 (Blk.new1 w (.cells #[.int .i64 l, .int .i64 m] 37) 40 #[.int .i64 0, .int .i64 0, .int .i64 0, .bool false, .int .i64 0, .int .i64 0, .int .i64 0, .int .i64 0, .int .i64 0, .int .i64 0, .slice none 0 0, .int .i64 0, .int .i64 0, .int .i64 0])
 cases cv
 · go_enter Tryz.func62,Tryz.ntmps62
   go_wp2_with fail
   refine (k1.out _).mono ?_
   rintro e w1 ⟨rfl,hb1⟩
   have U1:=H9 (U0.out.later hb1)
   have BC1:=H9 (BC.out.later hb1)
   have BR1:=H9 (BR.out.later hb1)
   clear hb1
   have c0:=(BC1.out).at 0 _ rfl
   have c1:=(BC1.out).at 1 _ rfl
   have r0:=(BR1.out).at 0 _ rfl
   have r1:=(BR1.out).at 1 _ rfl
   have r2:=(BR1.out).at 2 _ rfl
   have r3:=(BR1.out).at 3 _ rfl
   have r4:=(BR1.out).at 4 _ rfl
   have r5:=(BR1.out).at 5 _ rfl
   have r6:=(BR1.out).at 6 _ rfl
   have r7:=(BR1.out).at 7 _ rfl
   have r8:=(BR1.out).at 8 _ rfl
   have r9:=(BR1.out).at 9 _ rfl
   have r10:=(BR1.out).at 10 _ rfl
   have r11:=(BR1.out).at 11 _ rfl
   have r12:=(BR1.out).at 12 _ rfl
   have r13:=(BR1.out).at 13 _ rfl
   have rfz:=BR1.out.frozen
   have hs1:=BR1.out.lt
   go_wp2_with fail
   have BF:=Blk.setRow BR1.out [.int .i64 0, .int .i64 0, .int .i64 0, .bool false, .int .i64 0, .int .i64 0, .int .i64 0, .int .i64 0, .int .i64 0, .int .i64 0, .slice none 0 0, .int .i64 0, .int .i64 0, .int .i64 0] rfl
   have UF:=below_setRow (g:=w.heap.size+1) (by omega) [.int .i64 0, .int .i64 0, .int .i64 0, .bool false, .int .i64 0, .int .i64 0, .int .i64 0, .int .i64 0, .int .i64 0, .int .i64 0, .slice none 0 0, .int .i64 0, .int .i64 0, .int .i64 0] _ 0 U1.out
   simp only [setRow,Nat.zero_add,Nat.reduceAdd] at BF UF
   have hn:Jb.new l m=(Jb.Jt.none,3):=by unfold Jb.new;exact if_neg (by have h9:=HC.out;rw [eq_comm,decide_eq_false_iff_not] at h9;exact h9)
   exact bodyPost_ret (v := .tuple #[.agg (List.toArray [.int .i64 0, .int .i64 0, .int .i64 0, .bool false, .int .i64 0, .int .i64 0, .int .i64 0, .int .i64 0, .int .i64 0, .int .i64 0, .slice none 0 0, .int .i64 0, .int .i64 0, .int .i64 0]), .int .u8 3]) (zdn Tryz.results62 rfl (run_loadVar_row (P:=Tryz.prog) _ _ _ _ _ _ _ BF Tryz.underlying40 rfl (by kernel_rfl)) rfl) rfl ⟨by rw [hn];rfl,UF⟩
 · go_enter Tryz.func62,Tryz.ntmps62
   go_wp2_with fail
   refine (k1.out _).mono ?_
   rintro e w1 ⟨rfl,hb1⟩
   have U1:=H9 (U0.out.later hb1)
   have BC1:=H9 (BC.out.later hb1)
   have BR1:=H9 (BR.out.later hb1)
   clear hb1
   have c0:=(BC1.out).at 0 _ rfl
   have c1:=(BC1.out).at 1 _ rfl
   have r0:=(BR1.out).at 0 _ rfl
   have r1:=(BR1.out).at 1 _ rfl
   have r2:=(BR1.out).at 2 _ rfl
   have r3:=(BR1.out).at 3 _ rfl
   have r4:=(BR1.out).at 4 _ rfl
   have r5:=(BR1.out).at 5 _ rfl
   have r6:=(BR1.out).at 6 _ rfl
   have r7:=(BR1.out).at 7 _ rfl
   have r8:=(BR1.out).at 8 _ rfl
   have r9:=(BR1.out).at 9 _ rfl
   have r10:=(BR1.out).at 10 _ rfl
   have r11:=(BR1.out).at 11 _ rfl
   have r12:=(BR1.out).at 12 _ rfl
   have r13:=(BR1.out).at 13 _ rfl
   have rfz:=BR1.out.frozen
   have hs1:=BR1.out.lt
   go_wp2_with fail
   have BF:=Blk.setRow BR1.out [.int .i64 l, .int .i64 m, .int .i64 0, .bool false, .int .i64 0, .int .i64 0, .int .i64 (-1), .int .i64 (-1), .int .i64 0, .int .i64 0, .slice none 0 0, .int .i64 0, .int .i64 0, .int .i64 0] rfl
   have UF:=below_setRow (g:=w.heap.size+1) (by omega) [.int .i64 l, .int .i64 m, .int .i64 0, .bool false, .int .i64 0, .int .i64 0, .int .i64 (-1), .int .i64 (-1), .int .i64 0, .int .i64 0, .slice none 0 0, .int .i64 0, .int .i64 0, .int .i64 0] _ 0 U1.out
   simp only [setRow,Nat.zero_add,Nat.reduceAdd] at BF UF
   have hn:Jb.new l m=(⟨l,m,0,false,0,0, -1, -1,0,0,[],0,0,0⟩,0):=by unfold Jb.new;exact if_pos (by have h9:=HC.out;rw [eq_comm,decide_eq_true_iff] at h9;exact h9)
   exact bodyPost_ret (v := .tuple #[.agg (List.toArray [.int .i64 l, .int .i64 m, .int .i64 0, .bool false, .int .i64 0, .int .i64 0, .int .i64 (-1), .int .i64 (-1), .int .i64 0, .int .i64 0, .slice none 0 0, .int .i64 0, .int .i64 0, .int .i64 0]), .int .u8 0]) (zdn Tryz.results62 rfl (run_loadVar_row (P:=Tryz.prog) _ _ _ _ _ _ _ BF Tryz.underlying40 rfl (by kernel_rfl)) rfl) rfl ⟨by rw [hn];rfl,UF⟩
theorem zpi (v i:Int) (w:World):Calls Tryz.prog 64 #[.agg #[.int .i64 v, .int .i64 i]] w fun e w'=>e = .returned (.bool (Dlt.valid v i))∧Below w.heap.size w w':=by
 refine (zii v i w).mono ?_
 rintro e w' ⟨rfl,rfl⟩
 exact ⟨rfl,(Below.refl _ _).alloc (Nat.le_refl _) _⟩
theorem rel2 (s:Ev.Snd):((Ev.release s).2==2) = !s.valid:=by
 unfold Ev.release
 cases s.valid
 · rfl
 · cases s.on<;>rfl
theorem znc {p:Sb.Pt} (h1:true=speechB p.codec) (h2:true=Dlt.valid p.cv p.ci) (h3:true=Jb.valid p.jt) (h4:true=p.tn.valid):p.valid=decide p.near:=by
 unfold Sb.Pt.valid
 rw [← h1,← h2,← h3,← h4];rfl
theorem zea (p:Sb.Pt) (hw:p.wf) (A:Option Addr) (l:List TW) (n c:Nat) (X:Array Value) (hX:X=PA p A n c) (w:World) (hq:l.map TW.w=p.jt.q) (hn:l.length=n) (hl:n≤100000) (hA:Wts w w.heap.size A l) (hK:∀ a∈l,I64 a.w.m.sq) (v:Bool) (hv:v=p.valid):Calls Tryz.prog 21 #[.agg X] w fun e w'=>e = .returned (.bool v)∧Below w.heap.size w w':=by
 have PB0:=H9 (PB.new w X hX)
 have U0:=H9 ((Bel.refl w).push (.cells X 48))
 have HA:=H9 (hA.push (.cells X 48))
 have HV:=H9 hv
 obtain ⟨v1,hv1⟩:∃ v,v=speechB p.codec:=⟨_,rfl⟩
 obtain ⟨v2,hv2⟩:∃ v,v=Dlt.valid p.cv p.ci:=⟨_,rfl⟩
 obtain ⟨v3,hv3⟩:∃ v,v=Jb.valid p.jt:=⟨_,rfl⟩
 obtain ⟨v4,hv4⟩:∃ v,v=p.tn.valid:=⟨_,rfl⟩
 have k1:=H9 fun W=>zcz p.codec W hw.codec.1 hw.codec.2
 have k2:=H9 fun W=>zpi p.cv p.ci W
 have k3:=H9 fun (W:World) hW=>zrv p.jt A l n c W hq hn hl hW hK v3 hv3
 have k4:∀ W,Calls Tryz.prog 66 #[.agg #[.bool p.tn.on, .int .u8 p.tn.code, .int .u8 p.tn.vol, .int .u32 p.tn.start, .int .i64 p.tn.len, .int .i64 p.tn.ends]] W fun e w'=>e = .returned (.tuple #[.agg (Ev.release p.tn).1.row, .int .u8 (Ev.release p.tn).2])∧Below W.heap.size W w':=fun W=>zjq p.tn.on p.tn.code p.tn.vol p.tn.start p.tn.len p.tn.ends W
 have h4:=rel2 p.tn
 rw [← hv4] at h4
 generalize (Ev.release p.tn).1=s4 at k4
 generalize (Ev.release p.tn).2=r4 at k4 h4
 simp only [Ev.Snd.row] at k4
 replace k4:=H9 k4
 have HR:=H9 (fun h1 h2 h3 h4 => @znc p h1 h2 h3 h4)
 rw [← hv1] at k1
 rw [← hv2] at k2
 have H1:=H9 hv1
 have H2:=H9 hv2
 have H3:=H9 hv3
 have H5:=H9 hv4
 clear hX hA hv hK hq hv1 hv2 hv3 hv4
 go_enter Tryz.func21,Tryz.ntmps21
 go_upto_region 1 with fail
 obtain ⟨W,hW⟩:∃ W,W=w.alloc (Obj.cells X 48):=⟨_,rfl⟩
 rw [← hW] at PB0 U0 HA ⊢
 clear hW
 obtain ⟨g,hg⟩:∃ g,g=w.heap.size:=⟨_,rfl⟩
 rw [← hg] at PB0 ⊢
 clear hg
 have c0:=PB0.out.cell 0 _ rfl
 go_wp2_with fail
 refine (k1.out _).mono ?_
 rintro e w1 ⟨rfl,hb1⟩
 replace U0:=H9 (U0.out.later hb1)
 replace PB0:=H9 (PB0.out.later hb1)
 replace HA:=H9 (HA.out.later hb1)
 clear hb1 c0
 cases v1
 · obtain rfl:v=false:=by rw [HV.out];unfold Sb.Pt.valid;rw [← H1.out];rfl
   go_wp2_with fail
   go_ret
   exact ⟨rfl,U0.out⟩
 obtain ⟨x6,x7⟩:=PB0.out.cd
 go_wp2_with fail
 refine (k2.out _).mono ?_
 rintro e w2 ⟨rfl,hb1⟩
 replace U0:=H9 (U0.out.later hb1)
 replace PB0:=H9 (PB0.out.later hb1)
 replace HA:=H9 (HA.out.later hb1)
 clear hb1 x6 x7
 cases v2
 · obtain rfl:v=false:=by rw [HV.out];unfold Sb.Pt.valid;rw [← H2.out];simp
   go_wp2_with fail
   go_ret
   exact ⟨rfl,U0.out⟩
 obtain ⟨x14,x15,x16,x17,x18,x19,x20,x21,x22,x23,x24,x25,x26,x27⟩:=PB0.out.jt
 go_wp2_with fail
 refine (k3.out _ HA.out).mono ?_
 rintro e w3 ⟨rfl,hb1⟩
 replace U0:=H9 (U0.out.later hb1)
 replace PB0:=H9 (PB0.out.later hb1)
 clear hb1 HA x14 x15 x16 x17 x18 x19 x20 x21 x22 x23 x24 x25 x26 x27
 cases v3
 · obtain rfl:v=false:=by rw [HV.out];unfold Sb.Pt.valid;rw [← H3.out];simp
   go_wp2_with fail
   go_ret
   exact ⟨rfl,U0.out⟩
 obtain ⟨x8,x9,x10,x11,x12,x13⟩:=PB0.out.tn
 go_wp2_with fail
 refine (k4.out _).mono ?_
 rintro e w4 ⟨rfl,hb1⟩
 replace U0:=H9 (U0.out.later hb1)
 replace PB0:=H9 (PB0.out.later hb1)
 clear hb1 x8 x9 x10 x11 x12 x13
 cases v4
 · obtain rfl:v=false:=by rw [HV.out];unfold Sb.Pt.valid;rw [← H5.out];simp
   replace h4:(r4==2)=true:=h4
   go_wp2_with fail
   go_ret
   exact ⟨rfl,U0.out.push _⟩
 replace h4:(r4==2)=false:=h4
 have HV2:Hid (v=decide p.near):=H9 (by rw [HV.out];exact HR.out H1.out H2.out H3.out H5.out)
 obtain ⟨x28,x29,x30⟩:=PB0.out.tk
 have x31:=PB0.out.cell 31 _ rfl
 have hlt:=Blk.lt PB0.out
 go_upto_region 7 with fail
 by_cases t0:0≤p.tk.high
 rotate_left
 · obtain rfl:v=false:=by rw [HV2.out,decide_eq_false_iff_not];unfold Sb.Pt.near;omega
   have d0:decide (0≤p.tk.high)=false:=decide_eq_false t0
   replace t0:=Int.not_le.1 t0
   go_wp2_with fail
   go_ret
   exact ⟨rfl,(U0.out.push _).push _⟩
 by_cases t1:p.tk.high≤140737488355328
 rotate_left
 · obtain rfl:v=false:=by rw [HV2.out,decide_eq_false_iff_not];unfold Sb.Pt.near;omega
   have d1:decide (p.tk.high≤140737488355328)=false:=decide_eq_false t1
   replace t1:=Int.not_le.1 t1
   go_wp2_with fail
   go_ret
   exact ⟨rfl,(U0.out.push _).push _⟩
 by_cases t2 : -1≤p.tk.jump
 rotate_left
 · obtain rfl:v=false:=by rw [HV2.out,decide_eq_false_iff_not];unfold Sb.Pt.near;omega
   have d2:decide (-1≤p.tk.jump)=false:=decide_eq_false t2
   replace t2:=Int.not_le.1 t2
   go_wp2_with fail
   go_ret
   exact ⟨rfl,(U0.out.push _).push _⟩
 by_cases t3:p.tk.jump≤65535
 rotate_left
 · obtain rfl:v=false:=by rw [HV2.out,decide_eq_false_iff_not];unfold Sb.Pt.near;omega
   have d3:decide (p.tk.jump≤65535)=false:=decide_eq_false t3
   replace t3:=Int.not_le.1 t3
   go_wp2_with fail
   go_ret
   exact ⟨rfl,(U0.out.push _).push _⟩
 by_cases t4 : -140737488355328≤p.ht
 rotate_left
 · obtain rfl:v=false:=by rw [HV2.out,decide_eq_false_iff_not];unfold Sb.Pt.near;omega
   have d4:decide (-140737488355328≤p.ht)=false:=decide_eq_false t4
   replace t4:=Int.not_le.1 t4
   go_wp2_with fail
   go_ret
   exact ⟨rfl,(U0.out.push _).push _⟩
 by_cases t5:p.ht≤140737488355328
 rotate_left
 · obtain rfl:v=false:=by rw [HV2.out,decide_eq_false_iff_not];unfold Sb.Pt.near;omega
   have d5:decide (p.ht≤140737488355328)=false:=decide_eq_false t5
   replace t5:=Int.not_le.1 t5
   go_wp2_with fail
   go_ret
   exact ⟨rfl,(U0.out.push _).push _⟩
 obtain rfl:v=true:=by rw [HV2.out,decide_eq_true_iff];unfold Sb.Pt.near;omega
 go_wp2_with fail
 go_ret
 exact ⟨rfl,(U0.out.push _).push _⟩
end Go.Proofs.YtahbecinkciahaaGreat
namespace Go.Proofs.YtahbecinkciahaaGreat
open Go.RowKit
theorem zap {P:Program} {ops:Array Oper} {o:Oper} {a:Act} {S:World→Prop} (hgd:o.guard=none) (ty:TypeId) (x:Operand) (ho:o.op = .load ty x) (g i:Nat) (hx:a.eval x = .pointer (some ⟨g,i,none⟩)) (t:TypeId) (cs:List Value) (hg:∀ w,S w→Blk w g t cs.toArray) (n:Nat) (d:TypeDesc) (hu:P.underlying ty=some d) (hi:(P.info? ty).map (·.size)=some n) (hn:i+n≤cs.length) (vs:Array Value) (hv:(partS cs i n).toArray=vs) (hd:aggT d=true):YieldsIf P ops S o (.agg vs) a:=by
 subst hv
 refine Or.inl ⟨by simp [Region.wanted,hgd],fun w hS => ?_⟩
 unfold execOp
 simp only [ho,hx,Instr.loadAt,Instr.sureAddr,Sem.run_bind,Sem.run_pure,Result.andThen_ok,zbu (hg w hS) i n hd hu hi hn]
theorem zan {P:Program} {ops:Array Oper} {o:Oper} {a:Act} {w:World} {K:Act→World→Prop} {Q:Exit→Act→World→Prop} {E:Prop} (hgd:o.guard=none) (ty:TypeId) (x y:Operand) (ho:o.op = .store ty x y) (g i:Nat) (hx:a.eval x = .pointer (some ⟨g,i,none⟩)) (t:TypeId) (cs:List Value) (hg:Blk w g t cs.toArray) (vs:List Value) (hy:a.eval y = .agg vs.toArray) (hi:(P.info? ty).map (·.size)=some vs.length) (hn:i+vs.length≤cs.length) (h1:vs.all (·.oneCell')=true) (cs':List Value) (hc:overS cs i vs=cs')
 (h:∀ W,Blk W g t cs'.toArray→OnlyB g w W→K (a.put o.dst undef) W):if Region.wanted o (yielded ops a.tmps)=true then Oper.wp P o a w K Q else E:=by
 subst hc
 rw [if_pos (by simp [Region.wanted,hgd])]
 unfold Oper.wp execOp
 simp only [ho,hx,hy,Instr.storeAt,Instr.sureAddr,Sem.run_bind,Sem.run_pure,Result.andThen_ok,zcg hg i vs hi hn h1]
 unfold Oper.upon
 exact h _ (setRow_heap w g _ _ t _ hg) (OnlyB.setRow w g _)
theorem Blk.dr {W:World} {g:Nat} {t:TypeId} {cs:Array Value} (h:Blk W g t cs):Blk W.drew g t cs:=h
end Go.Proofs.YtahbecinkciahaaGreat
namespace Go.Proofs.YtahbecinkciahaaGreat
attribute [local go_sem ↓] zae zaf
attribute [local go_sem] zad zag
open Go.RowKit
theorem zbv (p:Sb.Pt) (hw:p.wf) (A:Option Addr) (l:List TW) (n c:Nat) (X:Array Value) (hX:X=PA p A n c) (w:World) (hq:l.map TW.w=p.jt.q) (hn:l.length=n) (hl:n≤100000) (hA:Wts w w.heap.size A l) (hK:∀ a∈l,I64 a.w.m.sq) (now:Int):Calls Tryz.prog 38 #[.agg X, .int .i64 now] w fun e w'=>e = .returned (.int .u8 (Sb.chkT p now))∧Below w.heap.size w w':=by
 have PB0:=H9 (PB.new w X hX)
 have U0:=H9 ((Bel.refl w).push (.cells X 48))
 have HA:=H9 (hA.push (.cells X 48))
 obtain ⟨v,hv⟩:∃ v,v=p.valid:=⟨_,rfl⟩
 have k1:=H9 fun (W:World) hW=>zea p hw A l n c (PA p A n c) rfl W hq hn hl hW hK v hv
 obtain ⟨R,hR⟩:∃ R,R=Sb.chkT p now:=⟨_,rfl⟩
 rw [← hR]
 unfold Sb.chkT at hR
 rw [← hv] at hR
 have HR:=H9 hR
 clear hX hA hK hq hv hR
 go_enter Tryz.func38,Tryz.ntmps38
 go_upto_region 1 with fail
 obtain ⟨W,hW⟩:∃ W,W=w.alloc (Obj.cells X 48):=⟨_,rfl⟩
 rw [← hW] at PB0 U0 HA ⊢
 clear hW
 obtain ⟨g,hg⟩:∃ g,g=w.heap.size:=⟨_,rfl⟩
 rw [← hg] at PB0 ⊢
 clear hg
 go_wp2_with (first|fail|(refine zab rfl 48 (.tmp 2) rfl (g) 0 rfl 48 (PL p A n c) PB0.out 48 _ Tryz.underlying48 zah (show 0+48≤48 by decide) (PA p A n c) (by rfl) rfl ?_))
 refine (k1.out _ HA.out).mono ?_
 rintro e w1 ⟨rfl,hb1⟩
 replace U0:=H9 (U0.out.later hb1)
 replace PB0:=H9 (PB0.out.later hb1)
 clear hb1
 have x16:=PB0.out.jt.2.2.1
 cases v
 · obtain rfl:R=2:=by rw [HR.out];simp
   go_wp2_with fail
   go_ret
   exact ⟨rfl,U0.out⟩
 by_cases h1:281474976710656<now
 · obtain rfl:R=2:=by rw [HR.out,if_pos (Or.inr h1)]
   go_wp2_with fail
   go_ret
   exact ⟨rfl,U0.out⟩
 have hno:¬(true=false∨281474976710656<now):=fun h=>h.elim (fun h=>by cases h) h1
 by_cases h2:now<p.jt.now
 · obtain rfl:R=9:=by rw [HR.out,if_neg hno,if_pos h2]
   clear hno
   go_wp2_with fail
   go_ret
   exact ⟨rfl,U0.out⟩
 obtain rfl:R=0:=by rw [HR.out,if_neg hno,if_neg h2]
 clear hno
 go_wp2_with fail
 go_ret
 exact ⟨rfl,U0.out⟩
end Go.Proofs.YtahbecinkciahaaGreat
namespace Go.Proofs.YtahbecinkciahaaGreat
open Go.RowKit
structure Chg (S:List Nat) (w w':World):Prop where
 os:w'.os=w.os
 tape:w'.tape=w.tape
 output:w'.output=w.output
 size:w.heap.size≤w'.heap.size
 block:∀ k,k<w.heap.size→k∉S→w'.heap[k]? = w.heap[k]?
section
variable {S T:List Nat} {w w' w'':World} {g:Nat}
theorem Chg.refl (S:List Nat) (w:World):Chg S w w:=⟨rfl,rfl,rfl,Nat.le_refl _,fun _ _ _=>rfl⟩
theorem Chg.trans (h:Chg S w w') (h2:Chg S w' w''):Chg S w w'':=⟨h2.os.trans h.os,h2.tape.trans h.tape,h2.output.trans h.output,Nat.le_trans h.size h2.size,fun k hk hn=>(h2.block k (Nat.lt_of_lt_of_le hk h.size) hn).trans (h.block k hk hn)⟩
theorem Chg.of_below (hb:Below w.heap.size w w'):Chg S w w':=⟨hb.os,hb.tape,hb.output,hb.size,fun k hk _=>hb.block k hk⟩
theorem Chg.of_only (h:OnlyB g w w') (hg:g∈S):Chg S w w':=⟨h.1.os,h.1.tape,h.1.output,h.1.size,fun k hk hn=>h.1.block k hk (fun e=>hn (by injection e with e;rw [e];exact hg))⟩
theorem Chg.of_grown {row:Option Nat} (h:w.grownBy w' row) (hr:∀ k,row=some k→k∈S∨w.heap.size≤k):Chg S w w':=⟨h.os,h.tape,h.output,h.size,fun k hk hn=>h.block k hk (fun e=>by rcases hr k e.symm with h1|h1;exact hn h1;omega)⟩
theorem Chg.more (h:Chg S w w') (hs:∀ k∈S,k∈T):Chg T w w':=⟨h.os,h.tape,h.output,h.size,fun k hk hn=>h.block k hk (fun e=>hn (hs k e))⟩
theorem Chg.less (h:Chg (g::S) w w') (hg:w.heap.size≤g):Chg S w w':=⟨h.os,h.tape,h.output,h.size,fun k hk hn=>h.block k hk (fun e=>by rcases List.mem_cons.1 e with e|e;omega;exact hn e)⟩
theorem Chg.alloc (S:List Nat) (w:World) (o:Obj):Chg S w (w.alloc o):=Chg.of_below ((Below.refl _ _).alloc (Nat.le_refl _) _)
theorem Chg.push (h:Chg S w w') (o:Obj):Chg S w (w'.alloc o):=h.trans (Chg.alloc S w' o)
theorem Chg.drew (h:Chg S w w'):Chg S w w'.drew:=⟨h.os,h.tape,h.output,h.size,h.block⟩
theorem Chg.drewN (h:Chg S w w') (n:Nat):Chg S w (w'.drewN n):=⟨h.os,h.tape,h.output,h.size,h.block⟩
theorem Chg.below (h:Chg [] w w'):Below w.heap.size w w':=⟨h.os,h.tape,h.output,h.size,fun k hk=>h.block k hk (by simp)⟩
theorem Chg.bel {W:World} (h:Chg S w w') (hb:Bel W w) (hs:∀ k∈S,W.heap.size≤k):Bel W w' :=
 ⟨h.os.trans hb.os,h.tape.trans hb.tape,h.output.trans hb.output,Nat.le_trans hb.size h.size,fun k hk=>(h.block k (Nat.lt_of_lt_of_le hk hb.size) (fun e=>by have:=hs k e;omega)).trans (hb.block k hk)⟩
theorem Chg.blk {t:TypeId} {cs:Array Value} (h:Chg S w w') (hb:Blk w g t cs) (hg:g∉S):Blk w' g t cs:=(h.block g hb.lt hg).trans hb
theorem Chg.cell (h:Chg S w w') {p:Addr} (hlt:p.block<w.heap.size) (hp:p.block∉S):w'.cell? p=w.cell? p:=by unfold World.cell?;rw [h.block p.block hlt hp]
theorem Chg.ints {k:IntKind} {A:Option Addr} {zs:List Int} (h:Chg S w w') (hi:IntsAt w w.heap.size k A zs) (hn:0<zs.length→∀ b off,A=some ⟨b,off,none⟩→b∉S):IntsAt w' w'.heap.size k A zs:=fun h0=>by
 obtain ⟨b,off,e,hlt,hc⟩:=hi h0
 exact ⟨b,off,e,Nat.lt_of_lt_of_le hlt h.size,fun i hi'=>(h.cell (p:=⟨b,off+i,none⟩) hlt (hn h0 b off e)).trans (hc i hi')⟩
theorem Chg.owns {base size n c:Nat} {e:TypeId} {A:Option Addr} {xs:List Value} (h:Chg S w w') (ho:Owns w base e size A n c xs) (hn:∀ k,ownB A=some k→k∉S):Owns w' base e size A n c xs :=
 ho.of_block (fun k hk=>h.block k (ho.block k hk).2 (hn k hk))
end
def IntsAv (W:World) (S:List Nat) (k:IntKind) (A:Option Addr) (zs:List Int):Prop:=IntsAt W W.heap.size k A zs∧(0<zs.length→∀ b off,A=some ⟨b,off,none⟩→b∉S)
section
variable {S T:List Nat} {W W':World} {k:IntKind} {A:Option Addr} {zs:List Int}
theorem IntsAv.nil:IntsAv W S k A []:=⟨IntsAt.nil,fun h=>absurd h (by simp)⟩
theorem IntsAv.chg (h:IntsAv W S k A zs) (hc:Chg T W W') (hs:∀ x∈T,x∈S):IntsAv W' S k A zs:=⟨hc.ints h.1 (fun h0 b off e hb=>h.2 h0 b off e (hs b hb)),h.2⟩
theorem IntsAv.add (h:IntsAv W S k A zs) {g:Nat} (hg:W.heap.size≤g):IntsAv W (g::S) k A zs:=⟨h.1,fun h0 b off e hb=>by
 rcases List.mem_cons.1 hb with e2|hb
 · obtain ⟨b',off',e',hlt,_⟩:=h.1 h0
   rw [e] at e';injection e' with e';injection e' with e1 _;omega
 · exact h.2 h0 b off e hb⟩
theorem IntsAv.of_at {B:Nat} (h:IntsAt W B k A zs) (hB:B≤W.heap.size) (hs:∀ x∈S,B≤x):IntsAv W S k A zs:=⟨h.more hB,fun h0 b off e hb=>by
 obtain ⟨b',off',e',hlt,_⟩:=h h0
 have:=hs b hb
 rw [e] at e';injection e' with e';injection e' with e1 _;omega⟩
theorem IntsAv.of_new {n:Nat} (h:IntsNew n W k A zs) (hs:∀ x∈S,x<n):IntsAv W S k A zs:=⟨h.1,fun h0 b off e hb=>by have:=h.2 h0 b off e;have:=hs b hb;omega⟩
theorem IntsAv.sub (h:IntsAv W S k A zs) (hs:∀ x∈T,x∈S):IntsAv W T k A zs:=⟨h.1,fun h0 b off e hb=>h.2 h0 b off e (hs b hb)⟩
end
theorem IntsAt.set_ne {w:World} {B:Nat} {k:IntKind} {A:Option Addr} {zs:List Int} (h:IntsAt w B k A zs) {p:Addr} {v0:Value} (hc:w.cell? p=some v0) (hk:∀ z,v0 ≠ .int k z) (u:Value):IntsAt (w.setCell p u) B k A zs:=fun h0=>by
 obtain ⟨b,off,e,hlt,qc⟩:=h h0
 refine ⟨b,off,e,hlt,fun i hi => ?_⟩
 rw [World.cell?_setCell_other w p ⟨b,off+i,none⟩ u (fun e2 => ?_)]
 · exact qc i hi
 · have:=qc i hi
   first
    | (rw [e2,hc] at this;injection this with this;exact hk _ this)
    | (rw [← e2,hc] at this;injection this with this;exact hk _ this)
structure QAv (W:World) (S:List Nat) (A:Option Addr) (l:List TW):Prop where
 wts:Wts W W.heap.size A l
 row:0<l.length→∀ b off,A=some ⟨b,off,none⟩→b∉S
 pay:∀ a∈l,0<a.w.m.pl.length→∀ b off,a.B=some ⟨b,off,none⟩→b∉S
section
variable {S T:List Nat} {W W':World} {A:Option Addr} {l:List TW}
theorem QAv.nil:QAv W S A []:=⟨⟨RowsAt.nil,fun _ h=>by cases h⟩,fun h=>absurd h (by simp),fun _ h=>by cases h⟩
theorem QAv.chg (h:QAv W S A l) (hc:Chg T W W') (hs:∀ x∈T,x∈S):QAv W' S A l:=by
 refine ⟨⟨fun h0 => ?_,fun a ha=>hc.ints (h.wts.2 a ha) (fun h0 b off e hb=>h.pay a ha h0 b off e (hs b hb))⟩,h.row,h.pay⟩
 obtain ⟨b,off,e,hlt,qc⟩:=h.wts.1 h0
 exact ⟨b,off,e,Nat.lt_of_lt_of_le hlt hc.size,fun i a ha j v hv=>(hc.cell (p:=⟨b,off+i*6+j,none⟩) hlt (fun hb=>h.row h0 b off e (hs b hb))).trans (qc i a ha j v hv)⟩
theorem QAv.later (h:QAv W S A l) (hb:Below W.heap.size W W'):QAv W' S A l:=h.chg (T:=[]) (Chg.of_below hb) (by simp)
theorem QAv.add (h:QAv W S A l) {g:Nat} (hg:W.heap.size≤g):QAv W (g::S) A l:=by
 refine ⟨h.wts,fun h0 b off e hb => ?_,fun a ha h0 b off e hb => ?_⟩
 · rcases List.mem_cons.1 hb with e2|hb
   · obtain ⟨b',off',e',hlt,_⟩:=h.wts.1 h0
     rw [e] at e';injection e' with e';injection e' with e1 _;omega
   · exact h.row h0 b off e hb
 · rcases List.mem_cons.1 hb with e2|hb
   · obtain ⟨b',off',e',hlt,_⟩:=h.wts.2 a ha h0
     rw [e] at e';injection e' with e';injection e' with e1 _;omega
   · exact h.pay a ha h0 b off e hb
theorem QAv.sub (h:QAv W S A l) (hs:∀ x∈T,x∈S):QAv W T A l:=⟨h.wts,fun h0 b off e hb=>h.row h0 b off e (hs b hb),fun a ha h0 b off e hb=>h.pay a ha h0 b off e (hs b hb)⟩
theorem QAv.of_wts {B:Nat} (h:Wts W B A l) (hB:B≤W.heap.size) (hs:∀ x∈S,B≤x):QAv W S A l:=by
 refine ⟨h.more hB,fun h0 b off e hb => ?_,fun a ha h0 b off e hb => ?_⟩
 · obtain ⟨b',off',e',hlt,_⟩:=h.1 h0
   have:=hs b hb
   rw [e] at e';injection e' with e';injection e' with e1 _;omega
 · obtain ⟨b',off',e',hlt,_⟩:=h.2 a ha h0
   have:=hs b hb
   rw [e] at e';injection e' with e';injection e' with e1 _;omega
theorem QAv.of_own {base n c:Nat} (h:QOwn W base A n c l) (hs:∀ x∈S,x<base):QAv W S A l:=by
 refine ⟨h.wts,fun h0 b off e hb => ?_,fun a ha h0 b off e hb => ?_⟩
 · have h1:=(h.own.block b (by rw [e];rfl)).1
   have:=hs b hb
   omega
 · have h1:=h.new a ha h0 b off e
   have:=hs b hb
   omega
end
structure PM (W:World) (S:List Nat) (g:Nat) (p:Sb.Pt) (A:Option Addr) (n c:Nat) (l:List TW):Prop where
 box:PB W g p A n c
 q:l.map TW.w=p.jt.q
 len:l.length=n
 cap:n≤c
 cm:c≤maxLen
 qa:QAv W S A l
section
variable {S T:List Nat} {W W':World} {g n c:Nat} {p p':Sb.Pt} {A:Option Addr} {l:List TW}
theorem PM.later (h:PM W S g p A n c l) (hb:Below W.heap.size W W'):PM W' S g p A n c l:=⟨h.box.later hb,h.q,h.len,h.cap,h.cm,h.qa.later hb⟩
theorem PM.push (h:PM W S g p A n c l) (o:Obj):PM (W.alloc o) S g p A n c l:=h.later ((Below.refl _ _).alloc (Nat.le_refl _) _)
theorem PM.chg (h:PM W S g p A n c l) (hc:Chg T W W') (hs:∀ x∈T,x∈S) (hg:g∉T):PM W' S g p A n c l:=⟨hc.blk h.box hg,h.q,h.len,h.cap,h.cm,h.qa.chg hc hs⟩
theorem PM.add (h:PM W S g p A n c l) {x:Nat} (hx:W.heap.size≤x):PM W (x::S) g p A n c l:=⟨h.box,h.q,h.len,h.cap,h.cm,h.qa.add hx⟩
theorem PM.set (h:PM W S g p A n c l) (hg:g∈S) (i:Nat) (v:Value) (p':Sb.Pt) (hp:(PL p A n c).set i v=PL p' A n c) (hj:p'.jt.q=p.jt.q):PM (W.setCell ⟨g,i,none⟩ v) S g p' A n c l:=by
 refine ⟨?_,h.q.trans hj.symm,h.len,h.cap,h.cm,h.qa.chg (Chg.of_only (OnlyB.setCell W g i v) (S:=S) hg) (fun _ h=>h)⟩
 have:=Blk.set_ h.box i v
 unfold PB PA
 rw [← hp]
 unfold PA at this
 simpa using this
theorem PM.over (h:PM W S g p A n c l) (hg:g∈S) (ho:OnlyB g W W') (p':Sb.Pt) (hb:PB W' g p' A n c) (hj:p'.jt.q=p.jt.q):PM W' S g p' A n c l :=
 ⟨hb,h.q.trans hj.symm,h.len,h.cap,h.cm,h.qa.chg (Chg.of_only ho (S:=S) hg) (fun _ h=>h)⟩
end
structure TS where
 s:Sb.Sd
 S:Option Addr
 c:Nat
def TS.row (a:TS):List Value:=[.int .i64 a.s.at_, .slice a.S a.s.zs.length a.c, .slice none 0 0]
def Sds (w:World) (n:Nat) (A:Option Addr) (l:List TS):Prop:=RowsAt w n 3 TS.row A l∧∀ a∈l,IntsAt w n .i16 a.S a.s.zs
section
variable {w w':World} {n:Nat} {A:Option Addr} {l:List TS}
theorem Sds.nil:Sds w n A []:=⟨RowsAt.nil,fun _ h=>by cases h⟩
theorem Sds.keep (h:Sds w n A l) (hk:∀ p:Addr,p.block<n→w'.cell? p=w.cell? p):Sds w' n A l:=⟨h.1.keep hk,fun a ha=>(h.2 a ha).keep hk⟩
theorem Sds.more {m:Nat} (h:Sds w n A l) (hm:n≤m):Sds w m A l:=⟨h.1.more hm,fun a ha=>(h.2 a ha).more hm⟩
theorem Sds.later (h:Sds w w.heap.size A l) (hb:Below w.heap.size w w'):Sds w' w'.heap.size A l:=(h.keep fun _ hp=>hb.cell hp).more hb.size
theorem Sds.push (h:Sds w w.heap.size A l) (o:Obj):Sds (w.alloc o) (w.alloc o).heap.size A l:=(h.keep fun p hp=>World.cell?_alloc_lt w o p hp).more (by simp)
end
theorem ztt {w:World} {n:Nat} {A:Option Addr} {l:List TS} (h:RowsAt w n 3 TS.row A l) {k:Nat} {a:TS} (ha:l[k]? = some a):∃ b off,A=some ⟨b,off,none⟩∧b<n ∧
 w.cell? ⟨b,off+k*3,none⟩=some (.int .i64 a.s.at_)∧w.cell? ⟨b,off+k*3+1,none⟩=some (.slice a.S a.s.zs.length a.c)∧w.cell? ⟨b,off+k*3+2,none⟩=some (.slice none 0 0):=by
 obtain ⟨b,off,rfl,hb,hc⟩:=h (by have:=(List.getElem?_eq_some_iff.1 ha).1;omega)
 exact ⟨b,off,rfl,hb,hc k a ha 0 _ rfl,hc k a ha 1 _ rfl,hc k a ha 2 _ rfl⟩
structure SOwn (w:World) (base:Nat) (A:Option Addr) (n c:Nat) (l:List TS):Prop where
 len:l.length=n
 own:Owns w base 86 3 A n c (l.flatMap TS.row)
 pay:∀ a∈l,IntsAt w w.heap.size .i16 a.S a.s.zs
 far:∀ a∈l,0<a.s.zs.length→∀ b off,a.S=some ⟨b,off,none⟩→some b≠ownB A
 new:∀ a∈l,0<a.s.zs.length→∀ b off,a.S=some ⟨b,off,none⟩→base≤b
theorem SOwn.nil {w:World} {base:Nat} : SOwn w base none 0 0 []:=⟨rfl,Owns.nil,(fun _ h=>by cases h),(fun _ h=>by cases h),(fun _ h=>by cases h)⟩
theorem SOwn.below {w w':World} {base n c:Nat} {A:Option Addr} {l:List TS} (h:SOwn w base A n c l) (hb:Below w.heap.size w w'):SOwn w' base A n c l :=
 ⟨h.len,h.own.below hb,fun a ha=>(h.pay a ha).later hb,h.far,h.new⟩
theorem SOwn.step {wr v1 v2 wn:World} {base k c cn:Nat} {A An:Option Addr} {l:List TS} {a:TS} (h:SOwn wr base A k c l) (hbs:base≤wr.heap.size) (hb:Below wr.heap.size wr v1) (hb2:Below v1.heap.size v1 v2) (hg:v2.grownBy wn (ownB A))
 (qo:Owns wn base 86 3 An (k+1) cn (l.flatMap TS.row++a.row)) (hat:ownB An=ownB A∨∀ g,ownB An=some g→v2.heap.size≤g) (hI:IntsNew wr.heap.size v1 .i16 a.S a.s.zs):SOwn wn base An (k+1) cn (l ++ [a]):=by
 have s1:=hb.size
 have s2:=hb2.size
 have s3:=hg.size
 have hA:∀ g,ownB A=some g→g<wr.heap.size:=fun g hg'=>(h.own.block g hg').2
 have key:∀ (x:TS),IntsAt v2 v2.heap.size .i16 x.S x.s.zs→(0<x.s.zs.length→∀ b off,x.S=some ⟨b,off,none⟩→some b≠ownB A)→IntsAt wn wn.heap.size .i16 x.S x.s.zs:=by
  intro x hx hf h0
  obtain ⟨b,off,e,hlt,hc⟩:=hx h0
  exact ⟨b,off,e,by omega,fun i hi=>hg.cell (hc i hi) (hf h0 b off e)⟩
 have farN:∀ b off,0<a.s.zs.length→a.S=some ⟨b,off,none⟩→wr.heap.size≤b∧b<v1.heap.size:=by
  intro b off h0 e
  refine ⟨hI.2 h0 b off e,?_⟩
  obtain ⟨b',off',e',hlt,_⟩:=hI.1 h0
  rw [e] at e'
  injection e' with e'
  injection e' with e1 _
  omega
 have farO:∀ x∈l,∀ b off,0<x.s.zs.length→x.S=some ⟨b,off,none⟩→b<wr.heap.size:=by
  intro x hx b off h0 e
  obtain ⟨b',off',e',hlt,_⟩:=h.pay x hx h0
  rw [e] at e'
  injection e' with e'
  injection e' with e1 _
  omega
 refine ⟨by simp [h.len],by rw [List.flatMap_append];simpa using qo,fun x hx => ?_,fun x hx h0 b off e => ?_,fun x hx h0 b off e => ?_⟩
 · rcases List.mem_append.1 hx with hx|hx
   · exact key x (((h.pay x hx).later hb).later hb2) (h.far x hx)
   · obtain rfl:=List.mem_singleton.1 hx
     refine key x (hI.1.later hb2) (fun h0 b off e he => ?_)
     have:=farN b off h0 e
     have:=hA b he.symm
     omega
 · rcases List.mem_append.1 hx with hx|hx
   · rcases hat with e2|e2
     · rw [e2];exact h.far x hx h0 b off e
     · intro he
       have:=farO x hx b off h0 e
       have:=e2 b he.symm
       omega
   · obtain rfl:=List.mem_singleton.1 hx
     have:=farN b off h0 e
     rcases hat with e2|e2
     · rw [e2]
       intro he
       have:=hA b he.symm
       omega
     · intro he
       have:=e2 b he.symm
       omega
 · rcases List.mem_append.1 hx with hx|hx
   · exact h.new x hx h0 b off e
   · obtain rfl:=List.mem_singleton.1 hx
     have:=farN b off h0 e
     omega
theorem SOwn.sds {w:World} {base n c:Nat} {A:Option Addr} {l:List TS} (h:SOwn w base A n c l):Sds w w.heap.size A l:=by
 refine ⟨?_,h.pay⟩
 exact Owns.rows h.own h.len (fun a=>rfl)
end Go.Proofs.YtahbecinkciahaaGreat
namespace Go.Proofs.YtahbecinkciahaaGreat.Sb
open Go.RowKit
theorem sounds_snoc:∀ (l:List Jb.Wt) (s:Int) (a:Jb.Wt),sounds s (l ++ [a])=((dec a.m.ty a.m.pl (sounds s l).1).2,(sounds s l).2 ++ [⟨a.at_,(dec a.m.ty a.m.pl (sounds s l).1).1,[]⟩])
 | [],s,a=>rfl
 | b :: l, s, a => by
   show ((sounds (dec b.m.ty b.m.pl s).2 (l ++ [a])).1,(⟨b.at_,(dec b.m.ty b.m.pl s).1,[]⟩:Sd)::(sounds (dec b.m.ty b.m.pl s).2 (l ++ [a])).2)=_
   rw [sounds_snoc l (dec b.m.ty b.m.pl s).2 a]
   rfl
theorem take_snoc {α : Type} {l:List α} {k:Nat} {a : α} (h:l[k]? = some a):l.take (k+1)=l.take k ++ [a]:=by
 rw [List.take_add_one,h];rfl
theorem noise_seed (a s:Int) (h0:0≤s) (h1:s≤4294967295) (n:Nat):0≤Ev.seed s n∧Ev.seed s n≤4294967295:=by
 induction n with
 | zero=>exact ⟨h0,h1⟩
 | succ n ih=>unfold Ev.seed;omega
end Go.Proofs.YtahbecinkciahaaGreat.Sb
namespace Go.Proofs.YtahbecinkciahaaGreat
attribute [local go_sem ↓] zae zaf
attribute [local go_sem] zad zag
open Go.RowKit
theorem zdo:(Tryz.prog.info? 86).map (fun i=>(i.zero,i.size,i.bytes))=some (some (.agg #[.int .i64 0, .slice none 0 0, .slice none 0 0]),3,56):=by kernel_rfl
structure Kept (base gl:Nat) (w w':World):Prop where
 os:w'.os=w.os
 tape:w'.tape=w.tape
 output:w'.output=w.output
 size:w.heap.size≤w'.heap.size
 block:∀ k,k<base→k<w.heap.size→k≠gl→w'.heap[k]? = w.heap[k]?
theorem Kept.blk {base gl g:Nat} {w w':World} {t:TypeId} {cs:Array Value} (h:Kept base gl w w') (hb:Blk w g t cs) (hg:g<base) (hne:g≠gl):Blk w' g t cs:=(h.block g hg hb.lt hne).trans hb
theorem Kept.bel {base gl:Nat} {w0 w w':World} (h:Kept base gl w w') (hb:Bel w0 w) (hs:w0.heap.size≤base) (hg:w0.heap.size≤gl):Bel w0 w' :=
 ⟨h.os.trans hb.os,h.tape.trans hb.tape,h.output.trans hb.output,Nat.le_trans hb.size h.size,fun k hk=>(h.block k (by omega) (by have:=hb.size;omega) (by omega)).trans (hb.block k hk)⟩
theorem SOwn.step2 {w wn:World} {base k c cn:Nat} {A An:Option Addr} {l:List TS} {a:TS} (h:SOwn w base A k c l) (hg:w.grownBy wn (ownB A))
 (qo:Owns wn base 86 3 An (k+1) cn (l.flatMap TS.row++a.row)) (hat:ownB An=ownB A∨∀ g,ownB An=some g→w.heap.size≤g) (hI:IntsAt w w.heap.size .i16 a.S a.s.zs)
 (hf:0<a.s.zs.length→∀ b off,a.S=some ⟨b,off,none⟩→some b≠ownB A∧base≤b):SOwn wn base An (k+1) cn (l ++ [a]):=by
 have s3:=hg.size
 have key:∀ (x:TS),IntsAt w w.heap.size .i16 x.S x.s.zs→(0<x.s.zs.length→∀ b off,x.S=some ⟨b,off,none⟩→some b≠ownB A)→IntsAt wn wn.heap.size .i16 x.S x.s.zs:=by
  intro x hx hf h0
  obtain ⟨b,off,e,hlt,hc⟩:=hx h0
  exact ⟨b,off,e,by omega,fun i hi=>hg.cell (hc i hi) (hf h0 b off e)⟩
 have low:∀ (x:TS),IntsAt w w.heap.size .i16 x.S x.s.zs→0<x.s.zs.length→∀ b off,x.S=some ⟨b,off,none⟩→b<w.heap.size:=by
  intro x hx h0 b off e
  obtain ⟨b',off',e',hlt,_⟩:=hx h0
  rw [e] at e'
  injection e' with e'
  injection e' with e1 _
  omega
 have all:∀ x∈l ++ [a],IntsAt w w.heap.size .i16 x.S x.s.zs∧(0<x.s.zs.length→∀ b off,x.S=some ⟨b,off,none⟩→some b≠ownB A∧base≤b):=by
  intro x hx
  rcases List.mem_append.1 hx with hx|hx
  · exact ⟨h.pay x hx,fun h0 b off e=>⟨h.far x hx h0 b off e,h.new x hx h0 b off e⟩⟩
  · obtain rfl:=List.mem_singleton.1 hx
    exact ⟨hI,hf⟩
 refine ⟨by simp [h.len],by rw [List.flatMap_append];simpa using qo,fun x hx=>key x (all x hx).1 (fun h0 b off e=>((all x hx).2 h0 b off e).1),fun x hx h0 b off e => ?_,fun x hx h0 b off e=>((all x hx).2 h0 b off e).2⟩
 rcases hat with e2|e2
 · rw [e2];exact ((all x hx).2 h0 b off e).1
 · intro he
   have:=low x (all x hx).1 h0 b off e
   have:=e2 b he.symm
   omega
theorem SOwn.only {w w':World} {g base n c:Nat} {A:Option Addr} {l:List TS} (h:SOwn w base A n c l) (ho:OnlyB g w w') (hg:g<base):SOwn w' base A n c l :=
 ⟨h.len,ho.owns h.own hg,fun a ha h0=>by
  obtain ⟨b,off,e,hlt,hc⟩:=h.pay a ha h0
  have:=h.new a ha h0 b off e
  exact ⟨b,off,e,by rw [ho.2];exact hlt,fun i hi=>(ho.cell (show b≠g by omega)).trans (hc i hi)⟩,h.far,h.new⟩
def AddR (base gl:Nat) (k:Nat) (ls:List TS) (a:TS) (w:World) (e:Ending) (w':World):Prop :=
 e = .returned (.tuple #[])∧∃ (A':Option Addr) (c':Nat),Blk w' gl 54 #[.slice A' (k+1) c']∧SOwn w' base A' (k+1) c' (ls ++ [a])∧Kept base gl w w'
theorem zup (base gl:Nat) (A:Option Addr) (k c:Nat) (ls:List TS) (at_:Int) (S:Option Addr) (zs:List Int) (sc:Nat) (w:World) (HL:Blk w gl 54 #[.slice A k c]) (HO:SOwn w base A k c ls) (hk:k≤100000) (hgl:gl<base) (hbs:base≤w.heap.size) (hI:IntsAt w w.heap.size .i16 S zs) (hf:0<zs.length→∀ b off,S=some ⟨b,off,none⟩→some b≠ownB A∧base≤b):Calls Tryz.prog 111 #[.int .i64 at_, .slice S zs.length sc, .pointer (some ⟨gl,0,none⟩)] w (AddR base gl k ls ⟨⟨at_,zs,[]⟩,S,sc⟩ w):=by
 have HL:=H9 HL
 have HO:=H9 HO
 have HI:=H9 hI
 have HF:=H9 hf
 have HX:=H9 HO.out.own
 clear hI hf
 go_enter Tryz.func111,Tryz.ntmps111
 have l0:=HL.out.at 0 _ rfl
 have lz:=HL.out.frozen 0
 have hlt:=HL.out.lt
 have h5:(k+1)*56≤140737488355328:=by omega
 have h6:k+1≤maxLen:=by unfold maxLen;omega
 have hAk:∀ g,ownB A=some g→base≤g:=fun g e=>(HX.out.block g e).1
 go_wp2_with (at_builtin;go_loud (refine zaq (w0:=w) rfl _ _ 54 rfl base 86 3 56 _ Tryz.underlying54 zdo rfl (by decide) A k c _ rfl HX.out [.int .i64 at_, .slice S zs.length sc, .slice none 0 0] rfl (by simp [Value.oneCell']) rfl h6 h5 hbs ?_);intro A9 c9 v1 qo hgr hat;have BY:=HL.out.grown hgr (fun e=>by have:=hAk _ e.symm;omega);have y0:=BY.at 0 _ rfl;have yz:=BY.frozen 0)
 obtain ⟨V1,hV1⟩:∃ W,W=v1.setCell ⟨gl,0,none⟩ (.slice A9 (k+1) c9):=⟨_,rfl⟩
 rw [← hV1]
 have OV:OnlyB gl v1 V1:=by rw [hV1];exact OnlyB.setCell _ _ _ _
 have BL:=H9 (show Blk V1 gl 54 #[.slice A9 (k+1) c9] by rw [hV1];exact BY.set_ 0 _)
 have HO2:=H9 ((HO.out.step2 (a:=⟨⟨at_,zs,[]⟩,S,sc⟩) hgr (by simpa [TS.row] using qo) hat HI.out HF.out).only OV hgl)
 have HK:=H9 (show Kept base gl w V1 from ⟨OV.1.os.trans hgr.os,OV.1.tape.trans hgr.tape,OV.1.output.trans hgr.output,Nat.le_trans hgr.size OV.1.size,fun j h1 h2 h3=>(OV.1.block j (by have:=hgr.size;omega) (fun e=>h3 (by injection e))).trans (hgr.block j h2 (fun e=>by have:=hAk _ e.symm;omega))⟩)
 clear hV1 OV BY y0 yz qo hgr hat l0 lz HL HO HX
 go_end0
 exact ⟨rfl,A9,c9,BL.out,HO2.out,HK.out⟩
end Go.Proofs.YtahbecinkciahaaGreat
namespace Go.Proofs.YtahbecinkciahaaGreat
open Go.RowKit
theorem zpj (w:World) :
 Calls Tryz.prog 161 #[.int .u8 1] w fun e w'=>e = .returned (.tuple #[.iface 222 (.agg #[]), .bool true])∧w=w':=by
 go_enter Tryz.func161,Tryz.ntmps161
 go_wp2
 go_ret2
 exact ⟨rfl,rfl⟩
theorem ztu (w:World) :
 Calls Tryz.prog 161 #[.int .u8 2] w fun e w'=>e = .returned (.tuple #[.iface 223 (.agg #[]), .bool true])∧w=w':=by
 go_enter Tryz.func161,Tryz.ntmps161
 go_wp2
 go_ret2
 exact ⟨rfl,rfl⟩
theorem ztv:(Tryz.prog.info? 5).map (fun i=>(i.zero,i.size,i.bytes))=some (some (.int .u8 0),1,1):=by kernel_rfl
theorem zhk:(Tryz.prog.info? 93).map (fun i=>(i.zero,i.size,i.bytes))=some (some (.int .i16 0),1,2):=by kernel_rfl
theorem zwb (x:Int) (w:World) (h0 : -32768≤x) (h1:x≤32767) :
 Calls Tryz.prog 182 #[.agg #[], .int .i16 x] w fun e w'=>e = .returned (.int .u8 (Cmp.muZ x))∧w.alloc (.cells #[] 222)=w':=by
 skip
 go_enter Tryz.func182,Tryz.ntmps182
 go_wp2_with (go_at_call 184;refine (zvz _ _ (by omega) (by omega)).mono ?_;rintro e w' ⟨rfl,rfl⟩)
 go_ret
 exact ⟨rfl,rfl⟩
theorem znd (w:World):(nilAhead 340 222 (.agg #[]) "dialtone/compand.code").run Tryz.prog w = .ok (some false) w:=by kernel_rfl
theorem zne (w:World):(method 340 222 (.agg #[]) "dialtone/compand.code").run Tryz.prog w = .ok (182, .agg #[]) w:=by kernel_rfl
theorem zrw (x:Int) (w:World) (h0:0≤x) (h1:x≤255) :
 Calls Tryz.prog 183 #[.agg #[], .int .u8 x] w fun e w'=>e = .returned (.int .i16 (Cmp.fromMuZ x))∧w.alloc (.cells #[] 222)=w':=by
 obtain ⟨n,rfl⟩:=Int.eq_ofNat_of_zero_le h0
 go_enter Tryz.func183,Tryz.ntmps183
 go_wp2_with (go_at_call 185;refine (zmt _ _ (by omega)).mono ?_;rintro e w' ⟨rfl,rfl⟩)
 go_ret
 exact ⟨rfl,rfl⟩
theorem zik (w:World):(nilAhead 340 222 (.agg #[]) "dialtone/compand.sample").run Tryz.prog w = .ok (some false) w:=by kernel_rfl
theorem zil (w:World):(method 340 222 (.agg #[]) "dialtone/compand.sample").run Tryz.prog w = .ok (183, .agg #[]) w:=by kernel_rfl
theorem zxl (x:Int) (w:World) (h0 : -32768≤x) (h1:x≤32767) :
 Calls Tryz.prog 187 #[.agg #[], .int .i16 x] w fun e w'=>e = .returned (.int .u8 (Cmp.aZ x))∧w.alloc (.cells #[] 223)=w':=by
 skip
 go_enter Tryz.func187,Tryz.ntmps187
 go_wp2_with (go_at_call 189;refine (zxk _ _ (by omega) (by omega)).mono ?_;rintro e w' ⟨rfl,rfl⟩)
 go_ret
 exact ⟨rfl,rfl⟩
theorem zpk (w:World):(nilAhead 340 223 (.agg #[]) "dialtone/compand.code").run Tryz.prog w = .ok (some false) w:=by kernel_rfl
theorem zpl (w:World):(method 340 223 (.agg #[]) "dialtone/compand.code").run Tryz.prog w = .ok (187, .agg #[]) w:=by kernel_rfl
theorem zuq (x:Int) (w:World) (h0:0≤x) (h1:x≤255) :
 Calls Tryz.prog 188 #[.agg #[], .int .u8 x] w fun e w'=>e = .returned (.int .i16 (Cmp.fromAZ x))∧w.alloc (.cells #[] 223)=w':=by
 obtain ⟨n,rfl⟩:=Int.eq_ofNat_of_zero_le h0
 go_enter Tryz.func188,Tryz.ntmps188
 go_wp2_with (go_at_call 190;refine (zow _ _ (by omega)).mono ?_;rintro e w' ⟨rfl,rfl⟩)
 go_ret
 exact ⟨rfl,rfl⟩
theorem zjr (w:World):(nilAhead 340 223 (.agg #[]) "dialtone/compand.sample").run Tryz.prog w = .ok (some false) w:=by kernel_rfl
theorem zjs (w:World):(method 340 223 (.agg #[]) "dialtone/compand.sample").run Tryz.prog w = .ok (188, .agg #[]) w:=by kernel_rfl
end Go.Proofs.YtahbecinkciahaaGreat
namespace Go.Proofs.YtahbecinkciahaaGreat
attribute [local go_sem ↓] zae zaf
attribute [local go_sem] zad zag
open Go.RowKit
theorem Ev.u64_in (x:Int) (h0:0≤x) (h1:x≤9223372036854775807):IntKind.u64.wrap x=x:=by
 simp [IntKind.wrap,IntKind.bits,IntKind.signed]
 omega
theorem zjt {k:IntKind} {a b:Int} (h:a=b):Ending.returned (.int k a) = .returned (.int k b):=by rw [h]
section
variable (A:Option Addr) (zs:List Int) (cap:Nat) (w:World)
theorem Ev.sum_step (zs:List Int) (hz:Within (-32768) 32767 zs) (k:Nat) (h:k<zs.length):(Ev.sumSq (zs.take (k+1)):Int)=(Ev.sumSq (zs.take k):Int)+zs.getD k 0*zs.getD k 0∧0≤zs.getD k 0*zs.getD k 0∧zs.getD k 0*zs.getD k 0≤1073741824∧(Ev.sumSq (zs.take k):Int)≤k*1073741824:=by
 obtain ⟨z0,z1⟩:=hz.at h
 have hs:=Ev.sq_bd _ z0 z1
 have h2:=Ev.sumSq_take zs k h
 have h3:=Ev.sumSq_bd (zs.take k) (hz.take k)
 have h4:(zs.take k).length=k:=by simp;omega
 rw [h4] at h3
 omega
theorem zim (hA:IntsAt w w.heap.size .i16 A zs) (hz:Within (-32768) 32767 zs) (hl:zs.length≤8000) :
 Calls Tryz.prog 75 #[.slice A zs.length cap] w fun e w'=>e = .returned (.int .u8 (Ev.lev zs))∧w=w':=by
 by_cases h0:zs.length=0
 · obtain rfl:=List.eq_nil_of_length_eq_zero h0
   clear h0
   go_enter Tryz.func75,Tryz.ntmps75
   go_wp2
   go_ret
   exact ⟨rfl,rfl⟩
 · obtain ⟨b,off,rfl,hb,qc⟩:=hA (by omega)
   have hmean:=Ev.mean_bd zs hz
   have hbd:=Ev.sumSq_bd zs hz
   have hL:Ev.lev zs=if Ev.sumSq zs / zs.length=0 then 127 else 3*(30-(Nat.log2 (Ev.sumSq zs / zs.length):Int)):=by unfold Ev.lev;rw [if_neg h0]
   have HL:=H9 hL
   have HZ:=H9 hz
   have h0':((zs.length:Int)==0)=false:=by simpa using h0
   have h1:1≤(zs.length:Int):=by omega
   clear hL hz hA h0
   go_enter Tryz.func75,Tryz.ntmps75
   go_wp2
   go_loop [3,12] (fun s i => ∃ k:Nat,k≤zs.length∧i = .int .i64 k∧s = .int .u64 (Ev.sumSq (zs.take k))) (fun _ i=>zs.length-(intOf i).toNat)
   case atStart=>exact ⟨0,Nat.zero_le _,rfl,rfl⟩
   case round =>
    obtain ⟨k,hk,rfl,rfl⟩:=hrel
    by_cases hlt:k<zs.length
    · have hc:=qc k hlt
      obtain ⟨s1,s2,s3,s4⟩:=Ev.sum_step zs HZ.out k hlt
      obtain ⟨z0,z1⟩:=HZ.out.at hlt
      have HS:=H9 s1
      have s5:(0:Int)≤(Ev.sumSq (zs.take k):Int):=by omega
      clear qc s1
      generalize zs.getD k 0=z at *
      generalize (Ev.sumSq (zs.take k):Int)=S at *
      have hi0:(0:Int)≤(k:Int):=by omega
      have hi1:(k:Int)<(zs.length:Int):=by omega
      go_wp2
      go_round
      case rel=>exact ⟨k+1,by omega,by go_num,by rw [HS.out]⟩
      case measure=>simp [intOf];omega
    · obtain rfl:k=zs.length:=by omega
      rw [List.take_length] at *
      have hq:(Ev.sumSq zs:Int) / (zs.length:Int)=((Ev.sumSq zs / zs.length:Nat):Int):=(Int.natCast_ediv _ _).symm
      have hq2:(Ev.sumSq zs:Int).tdiv (zs.length:Int)=((Ev.sumSq zs / zs.length:Nat):Int):=by rw [Int.tdiv_eq_ediv_of_nonneg (by omega),hq]
      have HQ:=H9 hq2
      clear hq2
      have hS:(Ev.sumSq zs:Int)≤8589934592000:=by omega
      clear hq qc hbd
      obtain ⟨P,hP⟩:∃ P,P=Ev.sumSq zs / zs.length:=⟨_,rfl⟩
      rw [← hP] at HL HQ hmean
      clear hP
      by_cases hp:P=0
      · subst hp
        have hq:=HQ.out
        have hw:=Ev.u64_in ((0:Nat):Int) (by omega) (by omega)
        have hlv:=HL.out
        rw [if_pos rfl] at hlv
        have HLV:=H9 hlv
        clear hlv
        generalize (Ev.sumSq zs:Int)=S at *
        go_wp2
        go_ret
        exact ⟨zjt HLV.out.symm,rfl⟩
      · have hlv:=HL.out
        rw [if_neg hp] at hlv
        have hb2:=Ev.log2_bd P hmean hp
        have hbl:(Lib.bitLen ((P:Nat):Int).toNat:Int)=(Nat.log2 P:Int)+1:=by
         rw [Int.toNat_natCast,Ev.bitLen_eq P (by omega),if_neg hp];simp
        have HLV:=H9 hlv
        have HBL:=H9 hbl
        have hq:=HQ.out
        have hw:=Ev.u64_in (P:Int) (by omega) (by omega)
        clear hlv hbl
        generalize Nat.log2 P=L at *
        generalize (Ev.sumSq zs:Int)=S at *
        have hp':((P:Int)==0)=false:=by simpa using hp
        have k1:=H9 fun W=>Tryz.bits_Len64 (P:Int) W (by omega) (by omega)
        rw [HBL.out] at k1
        clear HBL
        go_wp2_with (go_at_call 129;refine (k1.out _).mono ?_;rintro e w1 ⟨rfl,rfl⟩)
        go_ret
        exact ⟨zjt (by rw [HLV.out];omega),rfl⟩
end
end Go.Proofs.YtahbecinkciahaaGreat
namespace Go.Proofs.YtahbecinkciahaaGreat
attribute [local go_sem] zad zag
open Go.RowKit
theorem Ev.amp_bd:∀ k,0≤Ev.amp k∧Ev.amp k≤32767
 | 0=>by decide
 | k + 1 => by
   have:=Ev.amp_bd k
   unfold Ev.amp
   omega
theorem Ev.amp_pow:∀ k:Fin 43,(32767:Int) / 2 ^ k.val=Ev.amp k.val:=by decide +kernel
theorem Ev.info_i16:(Tryz.prog.info? 93).map (fun i=>(i.zero,i.size,i.bytes))=some (some (.int .i16 0),1,2):=by kernel_rfl
theorem Ev.seed_bd (s:Int) (h0:0≤s) (h1:s≤4294967295):∀ k,0≤Ev.seed s k∧Ev.seed s k≤4294967295
 | 0=>⟨h0,h1⟩
 | k+1=>by unfold Ev.seed;omega
theorem Ev.nsamp_bd (a s:Int) (ha:0≤a) (k:Nat) : -a≤Ev.nsamp a s k∧Ev.nsamp a s k≤a:=by
 unfold Ev.nsamp
 have h1:=Int.emod_nonneg (Ev.seed s (k+1) / 65536) (b:=2*a+1) (by omega)
 have h2:=Int.emod_lt_of_pos (Ev.seed s (k+1) / 65536) (b:=2*a+1) (by omega)
 omega
section
variable (l s n:Int) (w:World)
theorem zhl (h0:0≤l) (h1:l≤255) :
 Calls Tryz.prog 157 #[.int .u8 l] w fun e w'=>e = .returned (.int .i64 (Ev.amp (l / 6).toNat))∧w=w':=by
 obtain ⟨m,hm⟩:=Int.eq_ofNat_of_zero_le (a:=l / 6) (by omega)
 rw [hm,Int.toNat_natCast]
 have HM:=H9 hm
 clear hm
 go_enter Tryz.func157,Tryz.ntmps157
 go_wp2
 go_loop [3,4] (fun a i => ∃ k:Nat,k≤m∧i = .int .i64 k∧a = .int .i64 (Ev.amp k)) (fun _ i=>m-(intOf i).toNat)
 case atStart=>exact ⟨0,Nat.zero_le _,rfl,rfl⟩
 case round =>
  obtain ⟨k,hk,rfl,rfl⟩:=hrel
  have ha:=Ev.amp_bd k
  have hs:Ev.amp (k+1)=Ev.amp k / 2:=rfl
  have HS:=H9 hs
  clear hs
  generalize hga:Ev.amp k=a at *
  have HGA:=H9 hga
  clear hga
  obtain ⟨a0,a1⟩:=ha
  have hM:=HM.out
  by_cases hlt:(k:Int)<m
  · go_wp2
    go_round
    case rel=>exact ⟨k+1,by omega,by go_num,by rw [HS.out]⟩
    case measure=>simp [intOf];omega
  · obtain rfl:k=m:=by omega
    go_wp2
    go_ret
    exact ⟨zjt HGA.out.symm,rfl⟩
def NoiseR (a s:Int) (m:Nat) (w:World) (e:Ending) (w':World):Prop :=
 ∃ (A':Option Addr) (c':Nat),e = .returned (.tuple #[.slice A' m c', .int .u32 (Ev.seed s m), .int .u8 0])∧IntsAt w' w'.heap.size .i16 A' ((List.range m).map fun k=>Ev.nsamp a s k)∧Below w.heap.size w w'
end
end Go.Proofs.YtahbecinkciahaaGreat
namespace Go.Proofs.YtahbecinkciahaaGreat
attribute [local go_sem ↓] zae zaf
attribute [local go_sem] zad zag
open Go.RowKit
theorem zhm:Dlt.szA.size=89:=by simp [Dlt.szA,Dlt.szL]
theorem zhn:(Tryz.prog.info? 198).map (·.size)=some Dlt.szA.size:=by rw [zhm];exact zpb
theorem zju:Dlt.szA.all (·.oneCell')=true:=all_oneCell_toArray Dlt.szL_one
def laidW (w:World):World:=(w.alloc (.cells Dlt.zeroA 198)).setCells w.heap.size 0 Dlt.szA.toList
theorem zda (w:World):(w.alloc (.cells Dlt.zeroA 198)).there w.heap.size 0 Dlt.szA.size:=by
 rw [zhm];exact zih (zjp w)
theorem zbd (w:World):Below w.heap.size w (laidW w):=zbr (Nat.le_refl _) _ _ _ ((Below.refl _ _).alloc (Nat.le_refl _) _)
theorem zff (w:World):w.heap.size<(laidW w).heap.size:=by
 have h:=(zbr (Nat.le_refl w.heap.size) Dlt.szA.toList 0 (w.alloc (.cells Dlt.zeroA 198)) (Below.refl _ (w.alloc (.cells Dlt.zeroA 198)))).size
 simp at h
 show w.heap.size<(World.setCells _ _ _ _).heap.size
 omega
theorem zeb (w:World):StepsAt (laidW w) w.heap.size:=by
 refine ⟨zff w,fun n hn => ?_⟩
 have h:=World.rangeAt_setCells_same (w.alloc (.cells Dlt.zeroA 198)) w.heap.size 0 Dlt.szL (by rw [Dlt.szL_len,← zhm];exact zda w)
 have:=h n _ (Dlt.szL_at n hn)
 rw [Nat.zero_add] at this
 exact this
theorem zwc:(Tryz.prog.info? 5).map (fun i=>(i.zero,i.size,i.bytes))=some (some (.int .u8 0),1,1):=by kernel_rfl
theorem zho:(Tryz.prog.info? 93).map (fun i=>(i.zero,i.size,i.bytes))=some (some (.int .i16 0),1,2):=by kernel_rfl
theorem zba (n:Nat) (w:World) (h:n≤8000):Calls Tryz.prog 140 #[.int .i64 n] w fun e w'=>e = .returned (.int .i64 ((4+(n+1) / 2:Nat):Int))∧w=w':=by
 go_enter Tryz.func140,Tryz.ntmps140
 go_wp2
 go_ret
 exact ⟨zhj (by omega),rfl⟩
theorem StepsAt.far {w:World} {b:Nat} (h:StepsAt w b) {p:Addr} (hp:b≠p.block) (u:Value):StepsAt (w.setCell p u) b :=
 ⟨by simpa [World.setCell] using h.1,fun n hn=>(World.cell?_setCell_other w p ⟨b,n,none⟩ u (fun e=>hp (by rw [e]))).trans (h.2 n hn)⟩
theorem zgr {w wo:World} {B gt N k:Nat} {t t5:TypeId} {s:Int×Int} {zs:List Int} {V I c:Int} (hg:B+1+1+1+1≤gt) (h0:Blk w B t #[.int .i64 V, .int .i64 I]) (h1:Blk w (B+1) t #[.int .i64 0, .int .i64 0])
 (hr:w.rowIs (B+1+1+1) t5 N (fun j => .int .u8 (Dlt.packAt s zs k j))) (hs:StepsAt w gt) (hb:Below B wo w) (X:Int) (hX:X=Dlt.part s zs (k+1) (k / 2)) (hst:Dlt.stAt s zs (k+1)=(Dlt.nextV V I c,Dlt.nextI I c)) :
 Blk (((w.setCell ⟨B,0,none⟩ (.int .i64 (Dlt.nextV V I c))).setCell ⟨B,1,none⟩ (.int .i64 (Dlt.nextI I c))).setCell ⟨B+1+1+1,4+k / 2,none⟩ (.int .u8 X)) B t #[.int .i64 (Dlt.stAt s zs (k+1)).1, .int .i64 (Dlt.stAt s zs (k+1)).2] ∧
 Blk (((w.setCell ⟨B,0,none⟩ (.int .i64 (Dlt.nextV V I c))).setCell ⟨B,1,none⟩ (.int .i64 (Dlt.nextI I c))).setCell ⟨B+1+1+1,4+k / 2,none⟩ (.int .u8 X)) (B+1) t #[.int .i64 0, .int .i64 0] ∧
 (((w.setCell ⟨B,0,none⟩ (.int .i64 (Dlt.nextV V I c))).setCell ⟨B,1,none⟩ (.int .i64 (Dlt.nextI I c))).setCell ⟨B+1+1+1,4+k / 2,none⟩ (.int .u8 X)).rowIs (B+1+1+1) t5 N (fun j => .int .u8 (Dlt.packAt s zs (k+1) j)) ∧
 StepsAt (((w.setCell ⟨B,0,none⟩ (.int .i64 (Dlt.nextV V I c))).setCell ⟨B,1,none⟩ (.int .i64 (Dlt.nextI I c))).setCell ⟨B+1+1+1,4+k / 2,none⟩ (.int .u8 X)) gt ∧
 Below B wo (((w.setCell ⟨B,0,none⟩ (.int .i64 (Dlt.nextV V I c))).setCell ⟨B,1,none⟩ (.int .i64 (Dlt.nextI I c))).setCell ⟨B+1+1+1,4+k / 2,none⟩ (.int .u8 X)):=by
 refine ⟨?_,?_,?_,?_,?_⟩
 · rw [hst]
   exact ((h0.set_ 0 _).set_ 1 _).far (by simp;omega) _
 · exact ((h1.far (by simp) _).far (by simp) _).far (by simp) _
 · refine (((hr.setOther (by simp;omega) _).setOther (by simp;omega) _).set (4+k / 2) _).congr fun j _ => ?_
   rw [Dlt.packAt_set,hX]
   split<;>rfl
 · exact ((hs.far (by simp;omega) _).far (by simp;omega) _).far (by simp;omega) _
 · exact ((hb.setCell (by simp) _).setCell (by simp) _).setCell (by simp;omega) _
end Go.Proofs.YtahbecinkciahaaGreat
namespace Go.Proofs.YtahbecinkciahaaGreat
attribute [local go_sem] zad zag
open Go.RowKit
def Dlt.okB (bs:List Int) (n:Nat):Prop:=bs.length=4+(n+1) / 2∧bs.getD 2 0≤88∧bs.getD 3 0=0∧(n % 2=1→bs.getD (bs.length-1) 0 % 16=0)
instance (bs:List Int) (n:Nat):Decidable (Dlt.okB bs n):=by unfold Dlt.okB;infer_instance
theorem or_bytes (x0 x1:Int) (a0:0≤x0) (b0:x0≤255) (a1:0≤x1) (b1:x1≤255):bits BinOp.or IntKind.u16 (x0*256) x1=256*x0+x1:=by
 obtain ⟨n0,rfl⟩:=Int.eq_ofNat_of_zero_le a0
 obtain ⟨n1,rfl⟩:=Int.eq_ofNat_of_zero_le a1
 have e:((n0:Int)*256)=((n0*256:Nat):Int):=by omega
 have h:n0*256 ||| n1=n0*256+n1:=by
  rw [show (256:Nat)=2 ^ 8 from rfl,← Nat.shiftLeft_eq,Nat.shiftLeft_add_eq_or_of_lt (by omega)]
 rw [e,u16_or_nat (n0*256) n1 (by omega) (by omega),h]
 omega
theorem zjv (n:Int):IntKind.i16.wrap n=(n+32768) % 65536-32768:=by
 simp [IntKind.wrap,IntKind.bits,IntKind.signed]
 try omega
theorem zin (x0 x1:Int) (a0:0≤x0) (b0:x0≤255) (a1:0≤x1) (b1:x1≤255):wrap64 (IntKind.i16.wrap (bits BinOp.or IntKind.u16 (x0*256) x1))=(256*x0+x1+32768) % 65536-32768:=by
 rw [or_bytes x0 x1 a0 b0 a1 b1,zjv,IntWalk.wrap64_in _ ⟨by omega,by omega⟩]
theorem Dlt.headS_valid (bs:List Int) (n:Nat) (h:Dlt.okB bs n) (hz:Within 0 255 bs):Dlt.valid (Dlt.headS bs).1 (Dlt.headS bs).2=true:=by
 have h2:=(hz.at (i:=2) (by have:=h.1;omega)).1
 have h3:=h.2.1
 unfold Dlt.headS
 generalize 256*bs.getD 0 0+bs.getD 1 0=y
 generalize bs.getD 2 0=z at *
 have e1 : -32768≤(y+32768) % 65536-32768:=by omega
 have e2:(y+32768) % 65536-32768≤32767:=by omega
 simp [Dlt.valid,e1,e2,h2,h3]
theorem zio (n:Int) (A:Option Addr) (m cap:Nat) (w:World) (hn:n<0∨8000<n) :
 Calls Tryz.prog 94 #[.slice A m cap, .int .i64 n] w fun e w'=>e = .returned (.tuple #[.slice none 0 0, .agg #[.int .i64 0, .int .i64 0], .int .u8 3])∧Below w.heap.size w w':=by
 rcases hn with hn|hn
 all_goals
  go_enter Tryz.func94,Tryz.ntmps94
  go_wp2_with fail
  refine bodyPost_ret (v := .tuple #[.slice none 0 0, .agg #[.int .i64 0, .int .i64 0], .int .u8 3]) (by simp [results,Tryz.results94,go_sem]) rfl ⟨rfl,?_⟩
  repeat (first|exact Below.refl _ _|refine Below.setCell ?_ (by simp) _|refine Below.alloc ?_ (by simp;try omega) _)
theorem zip (n:Nat) (A:Option Addr) (m cap:Nat) (w:World) (hn:n≤8000) (hm:m<4+(n+1) / 2) :
 Calls Tryz.prog 94 #[.slice A m cap, .int .i64 n] w fun e w'=>e = .returned (.tuple #[.slice none 0 0, .agg #[.int .i64 0, .int .i64 0], .int .u8 6])∧Below w.heap.size w w':=by
 go_enter Tryz.func94,Tryz.ntmps94
 go_wp2_with fail
 refine (zba n _ hn).mono ?_
 rintro e w' ⟨rfl,rfl⟩
 generalize hs:4+(n+1) / 2=N at *
 go_wp2_with fail
 refine bodyPost_ret (v := .tuple #[.slice none 0 0, .agg #[.int .i64 0, .int .i64 0], .int .u8 6]) (by simp [results,Tryz.results94,go_sem]) rfl ⟨rfl,?_⟩
 repeat (first|exact Below.refl _ _|refine Below.setCell ?_ (by simp) _|refine Below.alloc ?_ (by simp;try omega) _)
theorem zhp (n:Nat) (A:Option Addr) (bs:List Int) (cap:Nat) (w:World) (hn:n≤8000) (hA:IntsAt w w.heap.size .u8 A bs) (hz:Within 0 255 bs) (hm:4+(n+1) / 2≤bs.length) (hno:¬Dlt.okB bs n) (hmax:bs.length≤maxLen) :
 Calls Tryz.prog 94 #[.slice A bs.length cap, .int .i64 n] w fun e w'=>e = .returned (.tuple #[.slice none 0 0, .agg #[.int .i64 0, .int .i64 0], .int .u8 5])∧Below w.heap.size w w':=by
 obtain ⟨b,off,rfl,hbB,qc⟩:=hA (by omega)
 have c2:=qc 2 (by omega)
 have c3:=qc 3 (by omega)
 have cl:=qc (bs.length-1) (by omega)
 obtain ⟨l0,l1⟩:=hz.at (i:=bs.length-1) (by omega)
 obtain ⟨g0,g1⟩:=hz.at (i:=2) (by omega)
 obtain ⟨t0,t1⟩:=hz.at (i:=3) (by omega)
 have hb':b≠w.heap.size:=by omega
 unfold Dlt.okB at hno
 generalize bs.getD 2 0=x2 at *
 generalize bs.getD 3 0=x3 at *
 generalize bs.getD (bs.length-1) 0=xl at *
 clear hA hz qc
 generalize hM:bs.length=M at *
 unfold maxLen at hmax
 have hM4:(4:Int)≤(M:Int):=by omega
 have hM2:(2:Int)<(M:Int):=by omega
 have hM3:(3:Int)<(M:Int):=by omega
 have hl0:(0:Int)≤(M:Int)-1:=by omega
 have hl1:(M:Int)-1<(M:Int):=by omega
 have hl2:((M:Int)-1).toNat=M-1:=by omega
 have cc2:(w.alloc (.cells #[.int .i64 0, .int .i64 0] 24)).cell? ⟨b,off+2,none⟩=some (.int .u8 x2):=(World.cell?_alloc_lt w _ _ hbB).trans c2
 have cc3:(w.alloc (.cells #[.int .i64 0, .int .i64 0] 24)).cell? ⟨b,off+3,none⟩=some (.int .u8 x3):=(World.cell?_alloc_lt w _ _ hbB).trans c3
 have ccl:(w.alloc (.cells #[.int .i64 0, .int .i64 0] 24)).cell? ⟨b,off+(M-1),none⟩=some (.int .u8 xl):=(World.cell?_alloc_lt w _ _ hbB).trans cl
 clear c2 c3 cl
 generalize hs:4+(n+1) / 2=N at *
 have HS:=H9 hs
 have h:N<M∨(M=N∧88<x2)∨(M=N∧x2≤88∧x3≠0)∨(M=N∧x2≤88∧x3=0∧(n:Int) % 2=1∧xl % 16≠0):=by omega
 clear hno hs
 rcases h with h|⟨rfl,h⟩|⟨rfl,h2,h3⟩|⟨rfl,h2,rfl,h4,h5⟩
 all_goals try have h5b:(xl % 16 != 0)=true:=bne_iff_ne.2 h5
 all_goals
  go_enter Tryz.func94,Tryz.ntmps94
  go_wp2_with fail
  refine (zba n _ hn).mono ?_
  rintro e w' ⟨rfl,rfl⟩
  rw [HS.out]
  go_wp2_with fail
  refine (zba n _ hn).mono ?_
  rintro e w' ⟨rfl,rfl⟩
  rw [HS.out]
  go_wp2_with fail
  refine bodyPost_ret (v := .tuple #[.slice none 0 0, .agg #[.int .i64 0, .int .i64 0], .int .u8 5]) (by simp [results,Tryz.results94,go_sem]) rfl ⟨rfl,?_⟩
  repeat (first|exact Below.refl _ _|refine Below.setCell ?_ (by simp) _|refine Below.alloc ?_ (by simp;try omega) _)
theorem zeo {w wo:World} {B gt n r k:Nat} {t t5:TypeId} {s:Int×Int} {bs:List Int} {V I c:Int} (hg:B+1+1≤gt) (hgr:gt<r) (h0:Blk w B t #[.int .i64 0, .int .i64 0]) (h1:Blk w (B+1) t #[.int .i64 V, .int .i64 I])
 (hr:w.rowIs r t5 n (fun j => .int .i16 (if j<k then (Dlt.dAt s bs (j+1)).1 else 0))) (hs:StepsAt w gt) (hb:Below B wo w) (hst:Dlt.dAt s bs (k+1)=(Dlt.nextV V I c,Dlt.nextI I c)) :
 Blk (((w.setCell ⟨B+1,0,none⟩ (.int .i64 (Dlt.nextV V I c))).setCell ⟨B+1,1,none⟩ (.int .i64 (Dlt.nextI I c))).setCell ⟨r,k,none⟩ (.int .i16 (Dlt.nextV V I c))) B t #[.int .i64 0, .int .i64 0] ∧
 Blk (((w.setCell ⟨B+1,0,none⟩ (.int .i64 (Dlt.nextV V I c))).setCell ⟨B+1,1,none⟩ (.int .i64 (Dlt.nextI I c))).setCell ⟨r,k,none⟩ (.int .i16 (Dlt.nextV V I c))) (B+1) t #[.int .i64 (Dlt.dAt s bs (k+1)).1, .int .i64 (Dlt.dAt s bs (k+1)).2] ∧
 (((w.setCell ⟨B+1,0,none⟩ (.int .i64 (Dlt.nextV V I c))).setCell ⟨B+1,1,none⟩ (.int .i64 (Dlt.nextI I c))).setCell ⟨r,k,none⟩ (.int .i16 (Dlt.nextV V I c))).rowIs r t5 n (fun j => .int .i16 (if j<k+1 then (Dlt.dAt s bs (j+1)).1 else 0)) ∧
 StepsAt (((w.setCell ⟨B+1,0,none⟩ (.int .i64 (Dlt.nextV V I c))).setCell ⟨B+1,1,none⟩ (.int .i64 (Dlt.nextI I c))).setCell ⟨r,k,none⟩ (.int .i16 (Dlt.nextV V I c))) gt ∧
 Below B wo (((w.setCell ⟨B+1,0,none⟩ (.int .i64 (Dlt.nextV V I c))).setCell ⟨B+1,1,none⟩ (.int .i64 (Dlt.nextI I c))).setCell ⟨r,k,none⟩ (.int .i16 (Dlt.nextV V I c))):=by
 refine ⟨?_,?_,?_,?_,?_⟩
 · exact ((h0.far (by simp) _).far (by simp) _).far (by simp;omega) _
 · rw [hst]
   exact ((h1.set_ 0 _).set_ 1 _).far (by simp;omega) _
 · have h:=zbm (g:=fun j=>(Dlt.dAt s bs (j+1)).1) ((hr.setOther (a:=⟨B+1,0,none⟩) (by simp;omega) (.int .i64 (Dlt.nextV V I c))).setOther (a:=⟨B+1,1,none⟩) (by simp;omega) (.int .i64 (Dlt.nextI I c)))
   simp only [hst] at h
   exact h
 · exact ((hs.far (by simp;omega) _).far (by simp;omega) _).far (by simp;omega) _
 · exact ((hb.setCell (by simp) _).setCell (by simp) _).setCell (by simp;omega) _
end Go.Proofs.YtahbecinkciahaaGreat
