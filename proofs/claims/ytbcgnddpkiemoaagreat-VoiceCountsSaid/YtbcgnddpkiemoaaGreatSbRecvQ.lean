/- Layer 32: Receive, a packet of speech or noise that is counted. -/
import Derived.Test.YtbcgnddpkiemoaaGreatSbSTQ
import Derived.Test.YtbcgnddpkiemoaaGreatSs9Q
import Derived.Test.YtbcgnddpkiemoaaGreatJtPnQ
import Derived.Test.YtbcgnddpkiemoaaGreatPkEncPQ
import Derived.Test.YtbcgnddpkiemoaaGreatJtValidQ
import Derived.Test.YtbcgnddpkiemoaaGreatJtCopyQ
import Derived.Test.YtbcgnddpkiemoaaGreatVoFunQ
set_option linter.unusedVariables false
set_option linter.unusedSimpArgs false
set_option maxRecDepth 100000
set_option maxHeartbeats 12800000
namespace Go.Proofs.YtbcgnddpkiemoaaGreat
variable {w W W' V W'' w' w'' v:World} {p:Sb.Pt} {A A2 A3 SA TA KA An:Option Addr} {l l2 l3:List TW} {n c lo base gf gt gR hi g B hi' lo' gc g3 cn gF gM:Nat} {x:Rx} {now:Int} {X:Array Value} {T F:List Nat} {hs:List TF}
section
open Go.RowKit
theorem zjh (C:RC w p A l n c x now) (hw:p.wf) (M:X=PA p A n c) (hc:Sb.chkT p now=0) (hk:speechB x.ty=true∨x.ty=13) (F:Pk.Tr) (fn t:Int) (hF:Pk.follow p.tk x.sq=(F,fn,true)) (ht:t=if p.tk.on=true then Pk.near p.ht x.ti 4294967296 else x.ti) (J:Jb.Jt) (D:List Jb.Wt) (jv:Int) (N:Jb.put p.jt now ⟨fn,t,x.mrk,x.ty,x.pl⟩=(J,D,jv,0)):Calls Tryz.prog 26 #[.agg X, .int .i64 now, .agg x.row] w (RecvR ({ p with tk:=F,ht:=if p.tk.on=false∨p.ht<t then t else p.ht,st:=Rep.arrive p.st fn (8*now) t,jt:=J,seed:=(Sb.sounds p.seed D).1 }, jv,(Sb.sounds p.seed D).2) w):=by
 have O:p.near:=by
  have hv:=(zie hc).1
  unfold Sb.Pt.valid at hv
  simp only [Bool.and_eq_true] at hv
  exact of_decide_eq_true hv.2
 obtain ⟨U,T,R,P,I,H⟩:=O
 have E:¬x.ty=101:=by rcases hk with h|h;rcases zal.1 h with h|h|h<;>omega;omega
 have K:(speechB x.ty||x.ty==13)=true:=by
  rcases hk with h|h
  · rw [h];rfl
  · rw [h];rfl
 refine ztt C hw M hc fun W a S B=>zyn C S E (fun W a gt S G L B=>zyo C S G L F fn true hF (by omega) (by omega) (by omega) (by omega) (fun W a S G B=>zyp (p := { p with tk:=F }) (C.with rfl rfl) S (fun a B => ?_) a B) a (by rw [K] at B;exact B)) a B
 exact zyq (p := { p with tk:=F }) (C.with rfl rfl) S gt fn t p.tk.on E I H ht J D jv N a B
end
section
attribute [local go_sem ↓] zab zac
attribute [local go_sem] zaa zad
open Go.RowKit
structure HS (w W:World) (S:List Nat) (gf gt gR:Nat) (tf tt:TypeId) (cf ct:List Value) (A2:Option Addr) (l2:List TW):Prop where
 bf:Blk W gf tf cf.toArray
 bt:Blk W gt tt ct.toArray
 br:Blk W gR 53 #[.int .i64 0, .slice none 0 0]
 q:QAv W S A2 l2
 ch:Chg [gf,gt] w W
 sf:gf∈S
 st:gt∈S
 sw:∀ x∈S,x<w.heap.size
 ne:gf≠gt
 r:w.heap.size≤gR
section
variable {w W W':World} {S:List Nat} {gf gt gR:Nat} {tf tt:TypeId} {cf ct N0 ct':List Value} {A2 sH:Option Addr} {l2 mN:List TW}
theorem HS.later (h:HS w W S gf gt gR tf tt cf ct A2 l2) (hb:Below W.heap.size W W'):HS w W' S gf gt gR tf tt cf ct A2 l2 :=
 ⟨h.bf.later hb,h.bt.later hb,h.br.later hb,h.q.later hb,h.ch.trans (Chg.of_below hb),h.sf,h.st,h.sw,h.ne,h.r⟩
theorem HS.push (h:HS w W S gf gt gR tf tt cf ct A2 l2) (o:Obj):HS w (W.alloc o) S gf gt gR tf tt cf ct A2 l2:=h.later ((Below.refl _ _).alloc (Nat.le_refl _) _)
theorem HS.setF (h:HS w W S gf gt gR tf tt cf ct A2 l2) (ho:OnlyB gf W W') (hb:Blk W' gf tf N0.toArray):HS w W' S gf gt gR tf tt N0 ct A2 l2:=by
 have h1:=h.sw gf h.sf
 have h2:=h.r
 exact ⟨hb,ho.blk h.bt (Ne.symm h.ne),ho.blk h.br (by omega),h.q.chg (Chg.of_only ho (S:=S) h.sf) (fun _ h=>h),h.ch.trans (Chg.of_only ho (by simp)),h.sf,h.st,h.sw,h.ne,h.r⟩
end
def PkAv (W:World) (S:List Nat) (A:Option Addr) (l:List TK):Prop:=RowsAv W S 11 TK.row A l∧∀ a∈l,IntsAv W S .u8 a.B a.k.pl
theorem PkAv.chg {S:List Nat} {l:List TK} (h:PkAv W S A l) (hc:Chg T W W') (hs:∀ x∈T,x∈S):PkAv W' S A l:=⟨h.1.chg hc hs,fun a B=>(h.2 a B).chg hc hs⟩
theorem PkAv.later {S:List Nat} {l:List TK} (h:PkAv W S A l) (hb:Below W.heap.size W W'):PkAv W' S A l:=h.chg (T:=[]) (Chg.of_below hb) (by simp)
structure HC (w:World) (S:List Nat) (gf of_ gt ot:Nat) (tf tt:TypeId) (cf ct:List Value) (c:Int) (p u:Sb.Pt) (i:Nat) (tk:Option Sb.Sd) (A1:Option Addr) (c1:Nat) (A2:Option Addr) (n2 c2:Nat) (l2:List TW) (ZA:Option Addr) (zs:List Int):Prop where
 bf:Blk w gf tf cf.toArray
 bt:Blk w gt tt ct.toArray
 ne:gf≠gt
 sf:gf∈S
 st:gt∈S
 sw:∀ x∈S,x<w.heap.size
 pf:partS cf of_ 48=PL p A1 0 c1
 lf:of_+48≤cf.length
 pt:partS ct ot 48=PL u A2 n2 c2
 lt:ot+48≤ct.length
 k1:c1≤maxLen
 hq:l2.map TW.w=u.jt.q
 hn:l2.length=n2
 hc:n2≤c2
 hm:c2≤maxLen
 q:QAv w S A2 l2
 hop:Sb.Hop c p u i tk
 i40:i<40
 z:IntsAt w w.heap.size .i16 ZA zs
 zl:zs.length=160
 zb:Within (-32768) 32767 zs
def FrH (gf of_ gt ot gR:Nat) (now:Int) (KA:Option Addr) (kn kc:Nat):List (Nat×Value):=[(0, .pointer (some ⟨gf,of_,none⟩)),(1, .pointer (some ⟨gt,ot,none⟩)),(3, .int .i64 now),(8, .pointer (some ⟨gR,0,none⟩)),(12, .slice KA kn kc)]
noncomputable def hop5_code:Code:=((Tryz.f8.body.bind (fromReg 5)).getD .skip)
end
section
open Go.RowKit
theorem zed (C:RC w p A l n c x now) (hw:p.wf) (D:X=PA p A n c) (hc:Sb.chkT p now=0) (hk:speechB x.ty=true∨x.ty=13) (hF:(Pk.follow p.tk x.sq).2.2=true) (E:(Jb.put p.jt now ⟨(Pk.follow p.tk x.sq).2.1,Sb.time p x.arr,x.mrk,x.ty,x.pl⟩).2.2.2=0):Calls Tryz.prog 26 #[.agg X, .int .i64 now, .agg x.row] w (RecvR (Sb.recv0 p now x.arr) w):=by
 have B:¬Sb.known x.arr=false:=by
  unfold Sb.known
  rcases hk with e|e
  · rw [show x.arr.ty=x.ty from rfl,e];simp
  · rw [show x.arr.ty=x.ty from rfl,e];simp
 have G:¬x.ty=101:=by rcases hk with h|h;rcases zal.1 h with h|h|h<;>omega;omega
 have e:Sb.recv0 p now x.arr=({ p with tk:=(Pk.follow p.tk x.sq).1,ht:=if p.tk.on=false∨p.ht<Sb.time p x.arr then Sb.time p x.arr else p.ht,st:=Rep.arrive p.st (Pk.follow p.tk x.sq).2.1 (8*now) (Sb.time p x.arr),jt:=(Jb.put p.jt now ⟨(Pk.follow p.tk x.sq).2.1,Sb.time p x.arr,x.mrk,x.ty,x.pl⟩).1,seed:=(Sb.sounds p.seed (Jb.put p.jt now ⟨(Pk.follow p.tk x.sq).2.1,Sb.time p x.arr,x.mrk,x.ty,x.pl⟩).2.1).1 }, (Jb.put p.jt now ⟨(Pk.follow p.tk x.sq).2.1,Sb.time p x.arr,x.mrk,x.ty,x.pl⟩).2.2.1,(Sb.sounds p.seed (Jb.put p.jt now ⟨(Pk.follow p.tk x.sq).2.1,Sb.time p x.arr,x.mrk,x.ty,x.pl⟩).2.1).2):=by
  unfold Sb.recv0
  rw [if_neg B]
  simp only
  rw [if_neg (by rw [show x.arr.sq=x.sq from rfl,hF];decide),if_neg (show ¬x.arr.ty=101 from G)]
  rfl
 rw [e]
 obtain ⟨f1,f2,H⟩:∃ F:Pk.Tr×Int×Bool,F=Pk.follow p.tk x.sq:=⟨_,rfl⟩
 refine zjh C hw D hc hk _ _ (Sb.time p x.arr) (by rw [← hF]) rfl _ _ _ ?_
 rw [← E]
end
section
attribute [local go_sem ↓] zab zac
attribute [local go_sem] zaa zad
open Go.RowKit
theorem QAv.of_win {S:List Nat} (h:WtsIn W lo W.heap.size A l) (hs:∀ x∈S,x<lo):QAv W S A l :=
 ⟨h.rows,fun h0 b off e hb=>by have h1:=h.low h0 b off e;have h2:=hs b hb;omega,fun a B h0 b off e hb=>by have h1:=h.plow a B h0 b off e;have h2:=hs b hb;omega⟩
def SdAv (W:World) (S:List Nat) (A:Option Addr) (l:List TS):Prop:=RowsAv W S 3 TS.row A l∧∀ a∈l,IntsAv W S .i16 a.S a.s.zs
theorem SdAv.chg {S:List Nat} {l:List TS} (h:SdAv W S A l) (hc:Chg T W W') (hs:∀ x∈T,x∈S):SdAv W' S A l:=⟨h.1.chg hc hs,fun a B=>(h.2 a B).chg hc hs⟩
theorem SdAv.later {S:List Nat} {l:List TS} (h:SdAv W S A l) (hb:Below W.heap.size W W'):SdAv W' S A l:=h.chg (T:=[]) (Chg.of_below hb) (by simp)
theorem SdAv.of_own {S:List Nat} {l:List TS} (h:SOwn W base A n c l) (hs:∀ x∈S,x<base):SdAv W S A l:=by
 refine ⟨⟨Owns.rows (l:=l) (row:=TS.row) h.own h.len (fun a=>rfl),fun h0 b off e hb => ?_⟩,fun a B=>⟨h.pay a B,fun h0 b off e hb => ?_⟩⟩
 · have h1:=(h.own.block b (by rw [e];rfl)).1
   have:=hs b hb
   omega
 · have h1:=h.new a B h0 b off e
   have:=hs b hb
   omega
theorem SdAv.sds {S:List Nat} {l:List TS} (h:SdAv W S A l):Sds W W.heap.size A l:=⟨h.1.1,fun a B=>(h.2 a B).1⟩
structure HR (w w':World) (S:List Nat) (gf of_ gt ot:Nat) (tf tt:TypeId) (cf ct:List Value) (c:Int) (p:Sb.Pt) (i:Nat) (tk:Option Sb.Sd) (zs:List Int) (p' u':Sb.Pt) (A1:Option Addr) (c1:Nat) (A2:Option Addr) (n2 c2:Nat) (l2:List TW) (kd:Int) (TA:Option Addr) (tz:List Int) (SA:Option Addr) (ls:List TS) (tk':Option Sb.Sd):Prop where
 bf:Blk w' gf tf (overS cf of_ (PL p' A1 0 c1)).toArray
 k1:c1≤maxLen
 bt:Blk w' gt tt (overS ct ot (PL u' A2 n2 c2)).toArray
 hq:l2.map TW.w=u'.jt.q
 hn:l2.length=n2
 hc:n2≤c2
 hm:c2≤maxLen
 q:QAv w' S A2 l2
 hop:Sb.Hop c p' u' (i+1) tk'
 tick:Sb.TkK (20*((i+1:Nat):Int)) kd tz tk'
 tza:IntsAv w' S .i16 TA tz
 f2:Sb.F2 Sb.mG (ls.map TS.s) tk.toList
 sd:SdAv w' S SA ls
 bd:∀ a∈ls,Within (-32768) 32767 a.s.zs
 ch:Chg [gf,gt] w w'
 en:kd=1→tz=Sb.decS c (Sb.enc c (p.cv,p.ci) zs).1
def HopR (S:List Nat) (gf of_ gt ot:Nat) (tf tt:TypeId) (cf ct:List Value) (c:Int) (p:Sb.Pt) (i:Nat) (tk:Option Sb.Sd) (zs:List Int) (w:World) (e:Ending) (w':World):Prop :=
 ∃ (p' u':Sb.Pt) (A1:Option Addr) (c1:Nat) (A2:Option Addr) (n2 c2:Nat) (l2:List TW) (kd:Int) (TA:Option Addr) (tn tc:Nat) (tz:List Int) (SA:Option Addr) (sn sc:Nat) (ls:List TS) (tk':Option Sb.Sd),e = .returned (.tuple #[.agg #[.int .i64 kd, .slice TA tn tc], .slice SA sn sc, .bool true])∧tz.length=tn∧ls.length=sn∧HR w w' S gf of_ gt ot tf tt cf ct c p i tk zs p' u' A1 c1 A2 n2 c2 l2 kd TA tz SA ls tk'
theorem HS.fin {S:List Nat} {tf tt:TypeId} {cf ct:List Value} {ls:List TS} {tz:List Int} (h:HS w W S gf gt gR tf tt cf ct A2 l2) (hq:QAv W (gR::S) A3 l3) (hs:SdAv W (gR::S) SA ls) (ht:IntsAv W (gR::S) .i16 TA tz) (ho:OnlyB gR W W') :
 Blk W' gf tf cf.toArray∧Blk W' gt tt ct.toArray∧QAv W' S A3 l3∧SdAv W' S SA ls∧IntsAv W' S .i16 TA tz∧Chg [gf,gt] w W':=by
 have h1:=h.sw gf h.sf
 have h2:=h.sw gt h.st
 have h3:=h.r
 have hc:Chg [gR] W W':=Chg.of_only ho (by simp)
 have hm:∀ x ∈ [gR],x∈gR::S:=by intro x hx;simp at hx;simp [hx]
 have A:∀ x∈S,x∈gR::S:=fun x hx=>List.mem_cons_of_mem _ hx
 have s1:=(hs.chg hc hm)
 refine ⟨ho.blk h.bf (by omega),ho.blk h.bt (by omega),(hq.chg hc hm).sub A,⟨⟨s1.1.1,fun h0 b off e hb=>s1.1.2 h0 b off e (A b hb)⟩,fun a B=>(s1.2 a B).sub A⟩,(ht.chg hc hm).sub A,?_⟩
 have C:Chg [gR,gf,gt] w W':=(h.ch.more (T:=[gR,gf,gt]) (fun x hx=>List.mem_cons_of_mem _ hx)).trans (hc.more (by intro x hx;simp at hx;simp [hx]))
 exact C.less h3
theorem WtsIn.onlyN (h:WtsIn W lo hi A l) (ho:OnlyB g W W') (hg:g<lo∨hi≤g):WtsIn W' lo hi A l:=h.keep fun p h1 h2=>ho.cell (by omega)
structure SdIn (w:World) (lo hi:Nat) (A:Option Addr) (l:List TS):Prop where
 rows:RowsAt w hi 3 TS.row A l
 low:0<l.length→∀ b off,A=some ⟨b,off,none⟩→lo≤b
 pay:∀ a∈l,IntsAt w hi .i16 a.S a.s.zs∧(0<a.s.zs.length→∀ b off,a.S=some ⟨b,off,none⟩→lo≤b)
section
variable {w w':World} {lo hi:Nat} {A:Option Addr} {l:List TS}
theorem SdIn.keep (h:SdIn w lo hi A l) (hk:∀ p:Addr,lo≤p.block→p.block<hi→w'.cell? p=w.cell? p):SdIn w' lo hi A l:=by
 refine ⟨fun h0 => ?_,h.low,fun a B=>⟨fun h0 => ?_,(h.pay a B).2⟩⟩
 · obtain ⟨b,off,rfl,hb,hc⟩:=h.rows h0
   have C:=h.low h0 b off rfl
   exact ⟨b,off,rfl,hb,fun i a B j v hv=>(hk _ C hb).trans (hc i a B j v hv)⟩
 · obtain ⟨b,off,e,hb,hc⟩:=(h.pay a B).1 h0
   have C:=(h.pay a B).2 h0 b off e
   exact ⟨b,off,e,hb,fun i hi=>(hk _ C hb).trans (hc i hi)⟩
theorem SdIn.onlyN (h:SdIn w lo hi A l) (ho:OnlyB g w w') (hg:g<lo∨hi≤g):SdIn w' lo hi A l:=h.keep fun p h1 h2=>ho.cell (by omega)
theorem SdIn.below (h:SdIn w lo hi A l) (hb:Below B w w') (hB:hi≤B):SdIn w' lo hi A l:=h.keep fun q _ hq=>hb.cell (by omega)
theorem SdIn.more (h:SdIn w lo hi A l) (hl:hi≤hi'):SdIn w lo hi' A l:=⟨h.rows.more hl,h.low,fun a B=>⟨(h.pay a B).1.more hl,(h.pay a B).2⟩⟩
theorem SdIn.less (h:SdIn w lo hi A l) (hl:lo'≤lo):SdIn w lo' hi A l:=⟨h.rows,fun h0 b off e=>Nat.le_trans hl (h.low h0 b off e),fun a B=>⟨(h.pay a B).1,fun h0 b off e=>Nat.le_trans hl ((h.pay a B).2 h0 b off e)⟩⟩
theorem SdIn.av {S:List Nat} (h:SdIn w lo w.heap.size A l) (hs:∀ x∈S,x<lo):SdAv w S A l :=
 ⟨⟨h.rows,fun h0 b off e hb=>by have h1:=h.low h0 b off e;have h2:=hs b hb;omega⟩,fun a B=>⟨(h.pay a B).1,fun h0 b off e hb=>by have h1:=(h.pay a B).2 h0 b off e;have h2:=hs b hb;omega⟩⟩
theorem SOwn.in_ (h:SOwn w base A n c l):SdIn w base w.heap.size A l :=
 ⟨Owns.rows (l:=l) (row:=TS.row) h.own h.len (fun a=>rfl),fun h0 b off e=>(h.own.block b (by rw [e];rfl)).1,fun a B=>⟨h.pay a B,h.new a B⟩⟩
end
noncomputable def hop11_code:Code:=((Tryz.f8.body.bind (findRegS 11)).getD .skip)
theorem PkAv.form {S:List Nat} {t:TK} (h:PkAv W S KA [t]):∃ B A,KA=some ⟨B,A,none⟩∧∀ j v,t.row[j]? = some v→W.cell? ⟨B,A+j,none⟩=some v:=by
 obtain ⟨b,off,e,_,hc⟩:=h.1.1 (by simp)
 exact ⟨b,off,e,fun j v hv=>by have C:=hc 0 t rfl j v hv;simpa using C⟩
noncomputable def hop11_rest:Code:=((Tryz.f8.body.bind (fromReg 11)).getD .skip)
noncomputable def hop15_code:Code:=((Tryz.f8.body.bind (fromReg 15)).getD .skip)
def Sb.Pkt.rx (k:Sb.Pkt) (Mx:Option Addr) (cm:Nat) (Et:Option Addr) (ce:Nat) (Pl:Option Addr) (cp:Nat):Rx:=⟨k.mrk,k.ty,k.sq,k.ti,k.src,Mx,0,cm,false,0,Et,0,ce,Pl,k.pl,cp,0⟩
end
section
open Go.RowKit
structure PQ where
 p:Sb.Pt
 A:Option Addr
 n:Nat
 c:Nat
 l:List TW
def PQ.row (q:PQ):List Value:=PL q.p q.A q.n q.c
def PQ.zero:PQ:=⟨Sb.Pt.zero,none,0,0,[]⟩
theorem PQ.len (q:PQ):q.row.length=48:=rfl
def row4 (f:Nat→PQ):List Value:=(f 0).row++((f 1).row++((f 2).row++(f 3).row))
def upd {α : Type} (f:Nat → α) (k:Nat) (x : α):Nat → α := fun j=>if j=k then x else f j
structure TQ where
 kd:Int
 A:Option Addr
 c:Nat
 zs:List Int
def TQ.row (t:TQ):List Value:=[.int .i64 t.kd, .slice t.A t.zs.length t.c]
def TQ.zero:TQ:=⟨0,none,0,[]⟩
def tick4 (f:Nat→TQ):List Value:=(f 0).row++((f 1).row++((f 2).row++(f 3).row))
structure VB where
 gC:Nat
 gL:Nat
 gm:Nat
 gi:Nat
 go:Nat
 ge:Nat
 gcf:Nat
 gsd:Nat
 gst:Nat
def VB.S (b:VB):List Nat:=[b.gm,b.gi,b.go,b.ge,b.gsd,b.gst]
structure VB.Ord (b:VB) (w:World):Prop where
 o0:w.heap.size≤b.gC
 o1:b.gC<b.gL
 o2:b.gL<b.gm
 o3:b.gm<b.gi
 o4:b.gi<b.go
 o5:b.go<b.ge
 o6:b.ge<b.gcf
 o7:b.gcf<b.gsd
 o8:b.gsd<b.gst
structure VM (w W:World) (b:VB) (F:List Nat) (cs ls:Nat→Int) (fm fi fo fe:Nat→PQ) (ts tt:Nat→TQ):Prop where
 ord:b.Ord w
 bC:Blk W b.gC 22 #[.int .u8 (cs 0), .int .u8 (cs 1), .int .u8 (cs 2), .int .u8 (cs 3)]
 bL:Blk W b.gL 24 #[.int .u16 (ls 0), .int .u16 (ls 1), .int .u16 (ls 2), .int .u16 (ls 3)]
 bm:Blk W b.gm 46 (row4 fm).toArray
 bi:Blk W b.gi 46 (row4 fi).toArray
 bo:Blk W b.go 46 (row4 fo).toArray
 be:Blk W b.ge 46 (row4 fe).toArray
 bs:Blk W b.gsd 54 (tick4 ts).toArray
 bt:Blk W b.gst 54 (tick4 tt).toArray
 qi:∀ k,k<4→QAv W (F++b.S) (fi k).A (fi k).l
 qe:∀ k,k<4→QAv W (F++b.S) (fe k).A (fe k).l
 ti:∀ k,k<4→IntsAv W (F++b.S) .i16 (ts k).A (ts k).zs
 te:∀ k,k<4→IntsAv W (F++b.S) .i16 (tt k).A (tt k).zs
 bel:Bel w W
 ft:∀ x∈F,b.gst<x∧x<W.heap.size
section
variable {w W W':World} {b:VB} {F G:List Nat} {cs ls:Nat→Int} {fm fi fo fe:Nat→PQ} {ts tt:Nat→TQ}
theorem VM.later (h:VM w W b F cs ls fm fi fo fe ts tt) (hb:Below W.heap.size W W'):VM w W' b F cs ls fm fi fo fe ts tt :=
 ⟨h.ord,h.bC.later hb,h.bL.later hb,h.bm.later hb,h.bi.later hb,h.bo.later hb,h.be.later hb,h.bs.later hb,h.bt.later hb,fun k hk=>(h.qi k hk).later hb,fun k hk=>(h.qe k hk).later hb,
  fun k hk=>(h.ti k hk).chg (T:=[]) (Chg.of_below hb) (by simp),fun k hk=>(h.te k hk).chg (T:=[]) (Chg.of_below hb) (by simp),h.bel.later hb,fun x hx=>⟨(h.ft x hx).1,Nat.lt_of_lt_of_le (h.ft x hx).2 hb.size⟩⟩
theorem VM.push (h:VM w W b F cs ls fm fi fo fe ts tt) (o:Obj):VM w (W.alloc o) b F cs ls fm fi fo fe ts tt:=h.later ((Below.refl _ _).alloc (Nat.le_refl _) _)
theorem VM.sub (h:VM w W b F cs ls fm fi fo fe ts tt) (hs:∀ x∈G,x∈F):VM w W b G cs ls fm fi fo fe ts tt:=by
 have hm:∀ x∈G++b.S,x∈F++b.S:=fun x hx=>by
  rcases List.mem_append.1 hx with h1|h1
  · exact List.mem_append_left _ (hs x h1)
  · exact List.mem_append_right _ h1
 exact ⟨h.ord,h.bC,h.bL,h.bm,h.bi,h.bo,h.be,h.bs,h.bt,fun k hk=>(h.qi k hk).sub hm,fun k hk=>(h.qe k hk).sub hm,fun k hk=>(h.ti k hk).sub hm,fun k hk=>(h.te k hk).sub hm,h.bel,fun x hx=>h.ft x (hs x hx)⟩
theorem VM.add (h:VM w W b F cs ls fm fi fo fe ts tt) (o:Obj):VM w (W.alloc o) b (W.heap.size::F) cs ls fm fi fo fe ts tt:=by
 have hb:=(Below.refl W.heap.size W).alloc (Nat.le_refl _) o
 have h1:=h.push o
 have hl:=h.bt.lt
 refine ⟨h1.ord,h1.bC,h1.bL,h1.bm,h1.bi,h1.bo,h1.be,h1.bs,h1.bt,fun k hk=>((h.qi k hk).add (Nat.le_refl _)).later hb,fun k hk=>((h.qe k hk).add (Nat.le_refl _)).later hb,
  fun k hk=>((h.ti k hk).add (Nat.le_refl _)).chg (T:=[]) (Chg.of_below hb) (by simp),fun k hk=>((h.te k hk).add (Nat.le_refl _)).chg (T:=[]) (Chg.of_below hb) (by simp),h1.bel,fun x hx => ?_⟩
 rcases List.mem_cons.1 hx with e|hx
 · rw [e];exact ⟨hl,by simp⟩
 · exact h1.ft x hx
theorem VM.setF (h:VM w W b F cs ls fm fi fo fe ts tt) (hg:g∈F) (ho:OnlyB g W W'):VM w W' b F cs ls fm fi fo fe ts tt:=by
 have A:=h.ft g hg
 have o0:=h.ord.o0;have o1:=h.ord.o1;have o2:=h.ord.o2;have o3:=h.ord.o3;have o4:=h.ord.o4;have o5:=h.ord.o5;have o6:=h.ord.o6;have o7:=h.ord.o7;have o8:=h.ord.o8
 have hc:Chg [g] W W':=Chg.of_only ho (by simp)
 have hm:∀ x ∈ [g],x∈F++b.S:=by intro x hx;simp at hx;rw [hx];exact List.mem_append_left _ hg
 exact ⟨h.ord,ho.blk h.bC (by omega),ho.blk h.bL (by omega),ho.blk h.bm (by omega),ho.blk h.bi (by omega),ho.blk h.bo (by omega),ho.blk h.be (by omega),ho.blk h.bs (by omega),ho.blk h.bt (by omega),
  fun k hk=>(h.qi k hk).chg hc hm,fun k hk=>(h.qe k hk).chg hc hm,fun k hk=>(h.ti k hk).chg hc hm,fun k hk=>(h.te k hk).chg hc hm,ho.bel h.bel (by omega),fun x hx=>⟨(h.ft x hx).1,by rw [ho.2];exact (h.ft x hx).2⟩⟩
theorem VM.setS (h:VM w W b F cs ls fm fi fo fe ts tt) (k:Nat) (t:TQ) (ho:OnlyB b.gsd W W') (hB:Blk W' b.gsd 54 (tick4 (upd ts k t)).toArray) (ht:IntsAv W (F++b.S) .i16 t.A t.zs):VM w W' b F cs ls fm fi fo fe (upd ts k t) tt:=by
 have o0:=h.ord.o0;have o1:=h.ord.o1;have o2:=h.ord.o2;have o3:=h.ord.o3;have o4:=h.ord.o4;have o5:=h.ord.o5;have o6:=h.ord.o6;have o7:=h.ord.o7;have o8:=h.ord.o8
 have hc:Chg [b.gsd] W W':=Chg.of_only ho (by simp)
 have hm:∀ x ∈ [b.gsd],x∈F++b.S:=by intro x hx;simp at hx;rw [hx];exact List.mem_append_right _ (by simp [VB.S])
 refine ⟨h.ord,ho.blk h.bC (by omega),ho.blk h.bL (by omega),ho.blk h.bm (by omega),ho.blk h.bi (by omega),ho.blk h.bo (by omega),ho.blk h.be (by omega),hB,ho.blk h.bt (by omega),
  fun k hk=>(h.qi k hk).chg hc hm,fun k hk=>(h.qe k hk).chg hc hm,fun j B => ?_,fun k hk=>(h.te k hk).chg hc hm,ho.bel h.bel (by omega),fun x hx=>⟨(h.ft x hx).1,by rw [ho.2];exact (h.ft x hx).2⟩⟩
 unfold upd
 split
 · exact ht.chg hc hm
 · exact (h.ti j B).chg hc hm
end
structure PairI (c:Int) (m u:PQ) (t:TQ) (i:Nat):Prop where
 ex:∃ tk,Sb.Hop c m.p u.p i tk∧Sb.TkK (20*(i:Int)) t.kd t.zs tk
 mn:m.n=0
 mc:m.c≤maxLen
 q:u.l.map TW.w=u.p.jt.q
 len:u.l.length=u.n
 cap:u.n≤u.c
 cm:u.c≤maxLen
end
section
attribute [local go_sem ↓] zab zac
attribute [local go_sem] zaa zad
open Go.RowKit
structure IntsLH (w:World) (lo hi:Nat) (k:IntKind) (A:Option Addr) (zs:List Int):Prop where
 at_:IntsAt w hi k A zs
 low:0<zs.length→∀ b off,A=some ⟨b,off,none⟩→lo≤b
section
variable {w w':World} {lo hi:Nat} {k:IntKind} {A:Option Addr} {zs:List Int}
theorem IntsLH.keep (h:IntsLH w lo hi k A zs) (hk:∀ p:Addr,lo≤p.block→p.block<hi→w'.cell? p=w.cell? p):IntsLH w' lo hi k A zs:=by
 refine ⟨fun h0 => ?_,h.low⟩
 obtain ⟨b,off,e,hb,hc⟩:=h.at_ h0
 have B:=h.low h0 b off e
 exact ⟨b,off,e,hb,fun i hi=>(hk _ B hb).trans (hc i hi)⟩
theorem IntsLH.onlyN (h:IntsLH w lo hi k A zs) (ho:OnlyB g w w') (hg:g<lo∨hi≤g):IntsLH w' lo hi k A zs:=h.keep fun p h1 h2=>ho.cell (by omega)
theorem IntsLH.below (h:IntsLH w lo hi k A zs) (hb:Below B w w') (hB:hi≤B):IntsLH w' lo hi k A zs:=h.keep fun q _ hq=>hb.cell (by omega)
theorem IntsLH.more (h:IntsLH w lo hi k A zs) (hl:hi≤hi'):IntsLH w lo hi' k A zs:=⟨h.at_.more hl,h.low⟩
theorem IntsLH.less (h:IntsLH w lo hi k A zs) (hl:lo'≤lo):IntsLH w lo' hi k A zs:=⟨h.at_,fun h0 b off e=>Nat.le_trans hl (h.low h0 b off e)⟩
end
noncomputable def vr40_code:Code:=((Tryz.f3.body.bind (findRegS 40)).getD .skip)
theorem IntsLH.ne_blk {k:IntKind} {zs:List Int} (h:IntsLH w lo hi k A zs) (hg:g<lo∨hi≤g) (h0:0<zs.length) (b off:Nat) (e:A=some ⟨b,off,none⟩):b≠g:=by
 have h1:=h.low h0 b off e
 obtain ⟨D,E,B,h2,_⟩:=h.at_ h0
 rw [e] at B;injection B with B;injection B with C _
 omega
theorem zci:(Tryz.prog.info? 255).map (·.size)=some 10:=by kernel_rfl
noncomputable def sn7_code:Code:=((Tryz.f75.body.bind (findRegS 7)).getD .skip)
theorem zxc {g f Z U T Jh l Hz Iq j Kc Kb z Jo m Mz My Mw Mu Mt Ms Mr Mq Mp Mo Ns Nr Nq Np Mn Mm Ml Mk Mj Mi Ka Jz Jy Mh Mg Mf Me Mc Mb Ma Lz Ly Lx Lw Jg n Lv Lu o p t x y Lt Ls Lr Lq Lp Jn Lo Ln Lm Ll Lk Lj Li Lh Lg Lf Le Ld Lc Lb La Kz Ky Kx Kw Kv Ku Kt Ks Kr Kq Jf Jx Jw Je Jv Ju Ci Ch Cg Cf Ce Cq:Value} {Q:Exit→Act→World→Prop} (gc:Nat) (no now:Int) (A:Option Addr) (c:Nat) (zs:List Int) (W:World) (x3:W.cell? ⟨gc,3,none⟩=some (.int .i64 no)) (N:∀ V:World,Below W.heap.size W V→Calls Tryz.prog 107 #[.slice A zs.length c] V (CloneI zs V)) (Af:∀ (ch:_) (a:Act) (d:Tmp) (u:Value) (w:World),Q (.panic ch) (a.put (some d) u) w→Q (.panic ch) a w)
 (h:∀ (G:World) (g3:Nat) (A':Option Addr) (c':Nat) (lX lW M lV LC LB KZ KY KX KW:Value),zs.length≤c'→Hid (IntsLH G W.heap.size G.heap.size .u8 A' zs)→W.heap.size≤g3→Hid (Blk G g3 255 #[.bool false, .int .i64 0, .bool false, .int .i64 0, .int .i64 no, .string { data := #[97] }, .string { data := #[98] }, .int .i64 now, .bool false, .slice A' zs.length c'])→(0<zs.length→∀ b off,A'=some ⟨b,off,none⟩→b≠g3)→Hid (Below W.heap.size W G)→Q .normal ⟨#[.pointer (some ⟨gc,0,none⟩), .string { data := #[97] }, .string { data := #[98] }, .slice A zs.length c, .int .i64 now,g,f,Z,U,T,Jh,l, .pointer (some ⟨g3,0,none⟩),Iq,j,Kc,Kb,z,Jo,m,Mz,My,Mw,Mu,Mt,Ms,Mr,Mq,Mp,Mo,lX,lW,M,lV,LC,LB,KZ,KY,KX,KW,Ka,Jz,Jy,Mh,Mg,Mf,Me,Mc,Mb,Ma,Lz,Ly,Lx,Lw,Jg,n,Lv,Lu,o,p,t,x,y,Lt,Ls,Lr,Lq,Lp,Jn,Lo,Ln,Lm,Ll,Lk,Lj,Li,Lh,Lg,Lf,Le,Ld,Lc,Lb,La,Kz,Ky,Kx,Kw,Kv,Ku,Kt,Ks,Kr,Kq,Jf,Jx,Jw,Je,Jv,Ju,Ci,Ch,Cg,Cf,Ce,Cq],[]⟩ G):sn7_code.wp Tryz.prog Q ⟨#[.pointer (some ⟨gc,0,none⟩), .string { data := #[97] }, .string { data := #[98] }, .slice A zs.length c, .int .i64 now,g,f,Z,U,T,Jh,l,Hz,Iq,j,Kc,Kb,z,Jo,m,Mz,My,Mw,Mu,Mt,Ms,Mr,Mq,Mp,Mo,Ns,Nr,Nq,Np,Mn,Mm,Ml,Mk,Mj,Mi,Ka,Jz,Jy,Mh,Mg,Mf,Me,Mc,Mb,Ma,Lz,Ly,Lx,Lw,Jg,n,Lv,Lu,o,p,t,x,y,Lt,Ls,Lr,Lq,Lp,Jn,Lo,Ln,Lm,Ll,Lk,Lj,Li,Lh,Lg,Lf,Le,Ld,Lc,Lb,La,Kz,Ky,Kx,Kw,Kv,Ku,Kt,Ks,Kr,Kq,Jf,Jx,Jw,Je,Jv,Ju,Ci,Ch,Cg,Cf,Ce,Cq],[]⟩ W:=by
 replace N:=Z9 N
 have hq:=Z9 h
 clear h
 conv=>arg 2;whnf
 refine wp_region_held_drew (S:=fun w'=>Below W.heap.size W w') (by kernel_rfl) (Below.drew (Below.refl _ _)) (fun B => ?_)
 obtain ⟨X,F⟩:=nm9 W.drew
 rw [← F] at B ⊢
 clear F
 iterate 8
  refine tkM 12 (v:=?_) rfl rfl ?_ B ?_ (q9 Af)
  rotate_left
  · (intro w Ac;have Tc:=zae Ac x3;clear Ac;go_simp;try with_reducible rfl)
  try simp only [ss9]
 all_goals try
  fail_if_success (have hx:=D)
  refine rd2 8 10 (by kernel_rfl) rfl rfl (fun K C=>?_) fun K C=>?_
  rotate_left
  go_simp
  have D:Hid (Blk (X.alloc (Obj.cells #[.bool false, .int .i64 0, .bool false, .int .i64 0, .int .i64 0, .string { data := #[] }, .string { data := #[] }, .int .i64 0, .bool false, .slice none 0 0] 255)) X.heap.size 255 (([.bool false, .int .i64 0, .bool false, .int .i64 0, .int .i64 0, .string { data := #[] }, .string { data := #[] }, .int .i64 0, .bool false, .slice none 0 0]:List Value)).toArray):=Z9 (Blk.new _ _ _)
  have J:W.heap.size≤X.heap.size:=B.size
  obtain ⟨g8,E⟩:=nm9 X.heap.size
  refine C.out _ _ ?_ (fun B => ?_)
  · exact zaj B _
  clear C K
  try simp only [ss9]
  rw [← E] at D J ⊢
  have L:=Z9 E
  clear E
  obtain ⟨Y,H⟩:=nm9 (X.alloc (Obj.cells #[.bool false, .int .i64 0, .bool false, .int .i64 0, .int .i64 0, .string { data := #[] }, .string { data := #[] }, .int .i64 0, .bool false, .slice none 0 0] 255))
  rw [← H] at D B ⊢
  clear H
  obtain ⟨X,F⟩:=nm9 Y
  subst F
 all_goals try
  refine rd1 8 (by kernel_rfl) rfl fun K C=>?_
 all_goals
  go_simp
  try have i:=Z9 D.out.lt
  have Br:=B.size
  refine (N.out _ B).mono ?_
  rintro e X ⟨A',c',rfl,De,O,R⟩
  have I:=Z9 (show IntsLH X _ X.heap.size .u8 A' zs from ⟨O.1,O.2⟩)
  clear O
  try replace D:=Z9 (D.out.later R)
  refine C.out _ _ ?_ (fun B => ?_)
  · exact zak R B
  clear C K R
  try simp only [ss9]
 all_goals
  refine tkB 9 rfl B ?_ (q9 Af)
  try simp only [ss9]
 all_goals try
  fail_if_success (have hx:=D)
  refine rd1 10 (by kernel_rfl) rfl fun K C=>?_
  go_simp
  have D:Hid (Blk (X.alloc (Obj.cells #[.bool false, .int .i64 0, .bool false, .int .i64 0, .int .i64 0, .string { data := #[] }, .string { data := #[] }, .int .i64 0, .bool false, .slice none 0 0] 255)) X.heap.size 255 (([.bool false, .int .i64 0, .bool false, .int .i64 0, .int .i64 0, .string { data := #[] }, .string { data := #[] }, .int .i64 0, .bool false, .slice none 0 0]:List Value)).toArray):=Z9 (Blk.new _ _ _)
  have J:W.heap.size≤X.heap.size:=B.size
  obtain ⟨g8,E⟩:=nm9 X.heap.size
  replace I:=Z9 (I.out.below ((Below.refl _ _).alloc (Nat.le_refl _) (Obj.cells #[.bool false, .int .i64 0, .bool false, .int .i64 0, .int .i64 0, .string { data := #[] }, .string { data := #[] }, .int .i64 0, .bool false, .slice none 0 0] 255)) (Nat.le_refl _))
  refine C.out _ _ ?_ (fun B => ?_)
  · exact zaj B _
  clear C K
  try simp only [ss9]
  rw [← E] at D J ⊢
  have L:=Z9 E
  clear E
  obtain ⟨Y,H⟩:=nm9 (X.alloc (Obj.cells #[.bool false, .int .i64 0, .bool false, .int .i64 0, .int .i64 0, .string { data := #[] }, .string { data := #[] }, .int .i64 0, .bool false, .slice none 0 0] 255))
  rw [← H] at D B I ⊢
  clear H
  obtain ⟨X,F⟩:=nm9 Y
  subst F
 all_goals
  refine rd1 11 (by kernel_rfl) rfl fun K C=>?_
  refine zam rfl 255 (.tmp 12) (.tmp 39) rfl g8 0 rfl 255 _ D.out ([.bool false, .int .i64 0, .bool false, .int .i64 0, .int .i64 no, .string { data := #[97] }, .string { data := #[98] }, .int .i64 now, .bool false, .slice A' zs.length c']) rfl zci (Nat.le_refl 10) rfl ([.bool false, .int .i64 0, .bool false, .int .i64 0, .int .i64 no, .string { data := #[97] }, .string { data := #[98] }, .int .i64 now, .bool false, .slice A' zs.length c']) rfl ?_
  intro WF BF P
  have HF:=P.bel (show Bel W X from B) J
  refine C.out _ _ HF (fun B => ?_)
  clear C K
  try simp only [ss9]
  refine wpAnyH_done (by kernel_rfl) ?_ _
  have Kg:0<zs.length→∀ b off,A'=some ⟨b,off,none⟩→b≠g8:=fun h0 b off e=>I.out.ne_blk (by first|exact Or.inl i.out|exact Or.inr (by rw [L.out];exact Nat.le_refl _)) h0 b off e
  exact hq.out WF g8 A' c' _ _ _ _ _ _ _ _ _ _ De (Z9 (((I.out.onlyN P (by first|exact Or.inl i.out|exact Or.inr (by rw [L.out];exact Nat.le_refl _))).more (by rw [P.2];first|exact Nat.le_refl _|(have h1:=D.out.lt;have h2:=L.out;omega))).less Br)) J (Z9 BF) Kg (Z9 HF)
structure SdS (W:World) (gc g3 base:Nat) (k:Ca) (pc:Pc):Prop where
 bc:Blk W gc 253 k.row.toArray
 b3:Blk W g3 255 pc.row.toArray
 own:Owns W base 255 10 k.pA k.ps.length k.pc (k.ps.flatMap Pc.row)
 ne:ownB k.pA≠some gc
 ne3:ownB k.pA≠some g3
 gne:gc≠g3
 hb:base≤W.heap.size
def FSd (gc g3:Nat) (now:Int):List (Nat×Value):=[(0, .pointer (some ⟨gc,0,none⟩)),(4, .int .i64 now),(12, .pointer (some ⟨g3,0,none⟩))]
noncomputable def sd15_code:Code:=((Tryz.f75.body.bind (fromReg 15)).getD .skip)
noncomputable def sd16_code:Code:=((Tryz.f75.body.bind (fromReg 16)).getD .skip)
theorem SdS.app {k:Ca} {pc:Pc} (X:SdS W gc g3 base k pc) (A:Below W.heap.size W V) (ho:Owns W' base 255 10 An (k.ps.length+1) cn (k.ps.flatMap Pc.row++pc.row)) (hg:V.grownBy W' (ownB k.pA)) (C:ownB An=ownB k.pA∨∀ g,ownB An=some g→V.heap.size≤g) (hs:OnlyB gc W' W'') (hB:Blk W'' gc 253 (Ca.row { k with pA:=An,pc:=cn,ps:=k.ps ++ [pc] }).toArray) :
 SdS W'' gc g3 base { k with pA:=An,pc:=cn,ps:=k.ps ++ [pc] } pc∧Chg (gc::(ownB k.pA).toList) W W''∧(ownB An=ownB k.pA∨∀ g,ownB An=some g→W.heap.size≤g):=by
 have E:=X.bc.lt
 have F:=X.b3.lt
 have D:=A.size
 have n1:∀ g,g<V.heap.size→ownB k.pA≠some g→ownB An≠some g:=fun g hlt h e=>by
  rcases C with B|B
  · exact h (B ▸ e)
  · have:=B g e;omega
 refine ⟨⟨hB,hs.blk ((X.b3.later A).grown hg (fun e=>X.ne3 e.symm)) X.gne.symm,?_,n1 gc (by omega) X.ne,n1 g3 (by omega) X.ne3,X.gne,?_⟩,?_,?_⟩
 · have h1:=(Chg.of_only hs (S:=[gc]) (by simp)).owns ho (fun q hq hx=>by simp at hx;rw [hx] at hq;exact n1 gc (by omega) X.ne hq)
   simpa using h1
 · have:=X.hb;have:=hg.size;have:=hs.2;omega
 · exact (Chg.of_below A).trans ((Chg.of_grown hg (fun q e => .inl (by rw [e];simp))).trans (Chg.of_only hs (by simp)))
 · rcases C with e|e
   · exact .inl e
   · exact .inr fun g hg=>Nat.le_trans D (e g hg)
theorem zvf {R:Ending→World→Prop} {k:Ca} {p:Pc} (X:SdS W gc g3 base k p) (hl:k.ps.length≤1000)
 (h:∀ (W':World) (a:Act) (An:Option Addr) (cn:Nat),SdS W' gc g3 base { k with pA:=An,pc:=cn,ps:=k.ps ++ [p] } p→Chg (gc::(ownB k.pA).toList) W W'→(ownB An=ownB k.pA∨∀ g,ownB An=some g→W.heap.size≤g)→Fr 106 (FSd gc g3 now) a→firstWp Tryz.prog sd16_code (bodyPost Tryz.prog Tryz.f75 R) a W') (a:Act) (Y:Fr 106 (FSd gc g3 now) a):firstWp Tryz.prog sd15_code (bodyPost Tryz.prog Tryz.f75 R) a W:=by
 obtain ⟨s,rfl,o⟩:=Y
 simp only [rl9]
 obtain ⟨j,i,m,_⟩:=o
 rw [j,i,m]
 have y0:=X.b3.at 0 (.bool p.f.lost) rfl
 have y1:=X.b3.at 1 (.int .i64 p.f.d) rfl
 have w:=X.b3.at 2 (.bool p.f.again) rfl
 have Q:=X.b3.at 3 (.int .i64 p.f.ad) rfl
 have z:=X.b3.at 4 (.int .i64 p.no) rfl
 have y:=X.b3.at 5 (.string { data := #[97] }) rfl
 have x:=X.b3.at 6 (.string { data := #[98] }) rfl
 have v:=X.b3.at 7 (.int .i64 p.sent) rfl
 have u:=X.b3.at 8 (.bool p.second) rfl
 have t:=X.b3.at 9 (.slice p.A p.zs.length p.c) rfl
 have x2:=X.bc.at 2 (.slice k.pA k.ps.length k.pc) rfl
 have IG:(W.alloc (.cells #[.bool p.f.lost, .int .i64 p.f.d, .bool p.f.again, .int .i64 p.f.ad, .int .i64 p.no, .string { data := #[97] }, .string { data := #[98] }, .int .i64 p.sent, .bool p.second, .slice p.A p.zs.length p.c] 255)).cell? ⟨gc,2,none⟩=some (.slice k.pA k.ps.length k.pc):=(X.bc.push _).at 2 _ rfl
 have U:k.ps.length+1≤maxLen:=by unfold maxLen;omega
 have l:(k.ps.length+1)*112≤140737488355328:=by omega
 have Df:=X.hb
 have D:=Z9 X
 clear X
 refine zas ?_
 intro _ _
 go_upto_region 15 with fail
 go_region_law (first|((refine zbx 87 (by rfl) (by rfl) _ _ 251 (by rfl) base 255 10 112 _ Tryz.underlying251 zdl rfl (by decide) k.pA k.ps.length k.pc (k.ps.flatMap Pc.row) (by rfl) (Owns.alloc D.out.own.drew _) W.heap.size [.bool p.f.lost, .int .i64 p.f.d, .bool p.f.again, .int .i64 p.f.ad, .int .i64 p.no, .string { data := #[97] }, .string { data := #[98] }, .int .i64 p.sent, .bool p.second, .slice p.A p.zs.length p.c] rfl (by simp [Value.oneCell']) (by rfl) ((Blk.new W 255 _).drew) U l (by simp;omega) ?_);intro An cn wn F E M;have B:=((D.out.bc.drew.push (.cells #[.bool p.f.lost, .int .i64 p.f.d, .bool p.f.again, .int .i64 p.f.ad, .int .i64 p.no, .string { data := #[97] }, .string { data := #[98] }, .int .i64 p.sent, .bool p.second, .slice p.A p.zs.length p.c] 255)).grown E (fun e=>D.out.ne e.symm));have N:=B.at 2 (.slice k.pA k.ps.length k.pc) rfl;have n:=B.frozen 2;have NW:=B.lt;have H:=Z9 B;have L:=Z9 F;have I:=Z9 E;have K:=Z9 M;clear B F E M))
 all_goals
  obtain ⟨W9,C⟩:=nm9 (wn.setCell ⟨gc,2,none⟩ (.slice An (k.ps.length+1) cn))
  have G:OnlyB gc wn W9:=by rw [C];exact OnlyB.setCell _ _ _ _
  have J:Blk W9 gc 253 (Ca.row { k with pA:=An,pc:=cn,ps:=k.ps ++ [p] }).toArray:=by
   rw [C]
   have Z:=H.out.set_ 2 (.slice An (k.ps.length+1) cn)
   have b:(k.ps ++ [p]).length=k.ps.length+1:=by simp
   unfold Ca.row
   simp only [b]
   exact Z
  obtain ⟨T,P,O⟩:=D.out.app (V:=(World.drew W).alloc (.cells #[.bool p.f.lost, .int .i64 p.f.d, .bool p.f.again, .int .i64 p.f.ad, .int .i64 p.no, .string { data := #[97] }, .string { data := #[98] }, .int .i64 p.sent, .bool p.second, .slice p.A p.zs.length p.c] 255)) (zaj (Below.drew (Below.refl _ _)) _) L.out I.out K.out G J
  rw [← C]
  clear C G J N n H L I K
  go_upto_region 16 with fail
  refine zba (by assumption) (by assumption) ?_
  exact h _ _ An cn T P O (Fr.mk rfl ⟨rfl,rfl,rfl,trivial⟩)
theorem zvg {R:Ending→World→Prop} {k:Ca} {p:Pc} (X:SdS W gc g3 base k p) (hl:k.ps.length≤1000)
 (h0:p.f.again=false→R (.returned (.tuple #[.int .i64 p.no, .int .u8 0])) W)
 (h1:p.f.again=true→∀ (W':World) (An:Option Addr) (cn:Nat),SdS W' gc g3 base { k with pA:=An,pc:=cn,ps:=k.ps ++ [{ p with second:=true }] } { p with second:=true } → Chg (g3::gc::(ownB k.pA).toList) W W'→(ownB An=ownB k.pA∨∀ g,ownB An=some g→W.heap.size≤g)→R (.returned (.tuple #[.int .i64 p.no, .int .u8 0])) W')
 (a:Act) (ha:Fr 106 (FSd gc g3 now) a):firstWp Tryz.prog sd16_code (bodyPost Tryz.prog Tryz.f75 R) a W:=by
 obtain ⟨s,rfl,Ak⟩:=ha
 simp only [rl9]
 obtain ⟨e0,e4,Ng,_⟩:=Ak
 rw [e0,e4,Ng]
 have F:=X.b3.at 2 (.bool p.f.again) rfl
 have M:=X.b3.at 4 (.int .i64 p.no) rfl
 have L:=X.b3.at 8 (.bool p.second) rfl
 have f8:=X.b3.frozen 8
 have Cb:=X.b3.lt
 by_cases N:p.f.again=true
 rotate_left
 · have j:p.f.again=false:=by simpa using N
   rw [j] at F
   refine zbd ?_
   intro _ _ _ _
   go_upto_region 19 with fail
   go_wp2_with fail
   exact h0 j
 rw [N] at F
 have D:=Z9 X
 clear X
 refine zbd ?_
 intro _ _ _ _
 go_upto_region 18 with fail
 obtain ⟨V,H⟩:=nm9 (W.setCell ⟨g3,8,none⟩ (.bool true))
 have E:OnlyB g3 W V:=by rw [H];exact OnlyB.setCell _ _ _ _
 have O:Blk V g3 255 (Pc.row { p with second:=true }).toArray:=by rw [H];exact D.out.b3.set_ 8 _
 rw [← H]
 clear H F M L f8
 have C:SdS V gc g3 base k { p with second:=true } := ⟨E.blk D.out.bc D.out.gne,O,(Chg.of_only E (S:=[g3]) (by simp)).owns D.out.own (fun q hq hx=>by simp at hx;rw [hx] at hq;exact D.out.ne3 hq),D.out.ne,D.out.ne3,D.out.gne,by have:=D.out.hb;have:=E.2;omega⟩
 have n:Chg [g3] W V:=Chg.of_only E (by simp)
 obtain ⟨B,I⟩:=nm9 (({ p with second:=true } : Pc))
 have m:B.no=p.no:=by rw [I]
 rw [← I] at C O
 have iM:=Z9 I
 have TP:=Z9 m
 have Z6:=Z9 n
 have YL:=Z9 E.2
 clear I m E O n Cb
 have w:=C.b3.at 0 (.bool B.f.lost) rfl
 have Q:=C.b3.at 1 (.int .i64 B.f.d) rfl
 have F:=C.b3.at 2 (.bool B.f.again) rfl
 have z:=C.b3.at 3 (.int .i64 B.f.ad) rfl
 have M:=C.b3.at 4 (.int .i64 B.no) rfl
 have y:=C.b3.at 5 (.string { data := #[97] }) rfl
 have v:=C.b3.at 6 (.string { data := #[98] }) rfl
 have u:=C.b3.at 7 (.int .i64 B.sent) rfl
 have L:=C.b3.at 8 (.bool B.second) rfl
 have t:=C.b3.at 9 (.slice B.A B.zs.length B.c) rfl
 have x2:=C.bc.at 2 (.slice k.pA k.ps.length k.pc) rfl
 have IG:(V.alloc (.cells #[.bool B.f.lost, .int .i64 B.f.d, .bool B.f.again, .int .i64 B.f.ad, .int .i64 B.no, .string { data := #[97] }, .string { data := #[98] }, .int .i64 B.sent, .bool B.second, .slice B.A B.zs.length B.c] 255)).cell? ⟨gc,2,none⟩=some (.slice k.pA k.ps.length k.pc):=(C.bc.push _).at 2 _ rfl
 have jN:k.ps.length+1≤maxLen:=by unfold maxLen;omega
 have Tj:(k.ps.length+1)*112≤140737488355328:=by omega
 have Df:=C.hb
 have K:=Z9 C
 clear C
 go_region_law (first|((refine zbx 101 (by rfl) (by rfl) _ _ 251 (by rfl) base 255 10 112 _ Tryz.underlying251 zdl rfl (by decide) k.pA k.ps.length k.pc (k.ps.flatMap Pc.row) (by rfl) (Owns.alloc K.out.own.drew _) V.heap.size [.bool B.f.lost, .int .i64 B.f.d, .bool B.f.again, .int .i64 B.f.ad, .int .i64 B.no, .string { data := #[97] }, .string { data := #[98] }, .int .i64 B.sent, .bool B.second, .slice B.A B.zs.length B.c] rfl (by simp [Value.oneCell']) (by rfl) ((Blk.new V 255 _).drew) jN Tj (by simp;omega) ?_);intro An cn wn U P o;have G:=((K.out.bc.drew.push (.cells #[.bool B.f.lost, .int .i64 B.f.d, .bool B.f.again, .int .i64 B.f.ad, .int .i64 B.no, .string { data := #[97] }, .string { data := #[98] }, .int .i64 B.sent, .bool B.second, .slice B.A B.zs.length B.c] 255)).grown P (fun e=>K.out.ne e.symm));have vU:=G.at 2 (.slice k.pA k.ps.length k.pc) rfl;have DS:=G.frozen 2;have NW:=G.lt;have Z:=Z9 G;have l:=Z9 U;have b:=Z9 P;have i:=Z9 o;clear G U P o))
 all_goals
  obtain ⟨W9,J⟩:=nm9 (wn.setCell ⟨gc,2,none⟩ (.slice An (k.ps.length+1) cn))
  have Y:OnlyB gc wn W9:=by rw [J];exact OnlyB.setCell _ _ _ _
  have h:Blk W9 gc 253 (Ca.row { k with pA:=An,pc:=cn,ps:=k.ps ++ [B] }).toArray:=by
   rw [J]
   have h9:=Z.out.set_ 2 (.slice An (k.ps.length+1) cn)
   have e9:(k.ps ++ [B]).length=k.ps.length+1:=by simp
   unfold Ca.row
   simp only [e9]
   exact h9
  obtain ⟨T,r2,r3⟩:=K.out.app (V:=(World.drew V).alloc (.cells #[.bool B.f.lost, .int .i64 B.f.d, .bool B.f.again, .int .i64 B.f.ad, .int .i64 B.no, .string { data := #[97] }, .string { data := #[98] }, .int .i64 B.sent, .bool B.second, .slice B.A B.zs.length B.c] 255)) (zaj (Below.drew (Below.refl _ _)) _) l.out b.out i.out Y h
  rw [← J]
  clear J Y h vU DS Z l b i w Q F z M y v u L t x2 IG
  have z4:=T.b3.at 4 (.int .i64 B.no) rfl
  go_upto_region 19 with fail
  go_wp2_with fail
  have e:=iM.out
  subst e
  exact h1 N W9 An cn T ((Z6.out.more (fun x hx=>by simp at hx;simp [hx])).trans (r2.more (fun x hx=>List.mem_cons_of_mem _ hx))) (by rw [← YL.out];exact r3)
def fateOf (k:Ca):Ft:=k.fs.getD k.sent.toNat ⟨false,0,false,0⟩
def copies (f:Ft) (no now:Int) (A:Option Addr) (c:Nat) (zs:List Int):List Pc:=if f.lost then [] else ⟨f,no,now,false,A,c,zs⟩::(if f.again then [⟨f,no,now,true,A,c,zs⟩] else [])
def SendC (S:List Nat) (base gc:Nat) (k:Ca) (zs:List Int) (now:Int) (W:World) (e:Ending) (w':World):Prop:=∃ (S':List Nat) (k':Ca) (A':Option Addr) (c':Nat),e = .returned (.tuple #[.int .i64 k.sent, .int .u8 0])∧CaM w' S' base gc k'∧Mv (gc::(ownB k.pA).toList) S W S' w'∧k'.sent=k.sent+1∧k'.now=now∧(k'.fs=k.fs∧k.lost≤k'.lost∧k'.lost≤k.lost+1)∧(ownB k'.pA=ownB k.pA∨∀ g,ownB k'.pA=some g→W.heap.size≤g)∧zs.length≤c'∧k'.ps=k.ps++copies (fateOf k) k.sent now A' c' zs
noncomputable def sd10_code:Code:=((Tryz.f75.body.bind (fromReg 10)).getD .skip)
theorem zvh {S:List Nat} {k:Ca} {zs:List Int} (M:CaM W S base gc k) (U:IntsAt W W.heap.size .u8 A zs) (h0:0<zs.length) (hl:zs.length≤2000) (n0:k.now≤now) (n1:0≤now) (n2:now≤1000000) (s0:0≤k.sent) (s1:k.sent<10000) (hf:k.fs.length≤2000) {R:Ending→World→Prop}
 (h:∀ (W':World) (a:Act) (g3:Nat) (A':Option Addr) (c':Nat),CaM W' (g3::S) base gc k→Blk W' g3 255 (Pc.row ⟨fateOf k,k.sent,now,false,A',c',zs⟩).toArray→W.heap.size≤g3→zs.length≤c'→IntsAt W' W'.heap.size .u8 A' zs→(0<zs.length→∀ b off,A'=some ⟨b,off,none⟩→W.heap.size≤b∧b≠g3)→Below W.heap.size W W'→Fr 106 (FSd gc g3 now) a→firstWp Tryz.prog sd10_code (bodyPost Tryz.prog Tryz.f75 R) a W') :
 Calls Tryz.prog 75 #[.pointer (some ⟨gc,0,none⟩), .string { data := #[97] }, .string { data := #[98] }, .slice A zs.length c, .int .i64 now] W R:=by
 have c0:=M.blk.at 0 (.bool true) rfl
 have c3:=M.blk.at 3 (.int .i64 k.sent) rfl
 have c5:=M.blk.at 5 (.int .i64 k.now) rfl
 have T:=Z9 fun (V:World) h=>zdj gc V h
 have kc:=Z9 fun (V:World) (D:Below W.heap.size W V)=>zga A c zs V ((U.keep (fun _ hp=>D.cell hp)).more D.size) h0 hl
 have t1:¬now<k.now:=by omega
 have t2:¬now > 1099511627776:=by omega
 have t3:¬k.sent ≥ 10000:=by omega
 have F:=Z9 M
 have zL:=M.blk.lt
 have Q:=Z9 (fun q hq=>(M.own.block q hq).2)
 clear M U
 go_enter Tryz.func75,Tryz.ntmps75
 go_wp2_with fail
 refine (T.out _ c0).mono ?_
 rintro e w0 ⟨rfl,rfl⟩
 go_upto_region 7 with fail
 refine zxc gc k.sent now A c zs w0 c3 kc.out ?_ ?_
 · intro ch a d u w h;exact h
 intro G g3 A' c' lX lW o lV LC LB KZ KY KX KW X K O B L C
 replace F:=Z9 (F.out.mv (Mv.add C.out O B.out.lt) (by simp) (by simp))
 clear c0 c3 c5 t1 t2 t3 kc T
 have c1:=F.out.blk.at 1 (.slice k.fA k.fs.length k.fc) rfl
 have P:=B.out.at 4 (.int .i64 k.sent) rfl
 go_upto_region 8 with fail
 go_region
 obtain ⟨m,hm⟩:∃ m:Nat,k.sent=(m:Int):=⟨k.sent.toNat,by omega⟩
 rw [hm] at P
 by_cases p:m<k.fs.length
 rotate_left
 · have z:¬(m:Int)<(k.fs.length:Int):=by omega
   have J:fateOf k=⟨false,0,false,0⟩:=by unfold fateOf;rw [hm,Int.toNat_natCast,List.getD_eq_getElem?_getD,List.getElem?_eq_none (by omega)];rfl
   have Bs:=Below.drew C.out
   have N:=Z9 (F.out.mv (Mv.below (Below.drew (Below.refl G.heap.size G))) (by simp) (by simp))
   have Cp:=h G.drew
   go_upto_region 10 with fail
   refine zao (by assumption) ?_
   refine Cp _ g3 A' c' N.out (by rw [J];exact B.out.drew) O X K.out.at_ (fun q0 b off e=>⟨K.out.low q0 b off e,L q0 b off e⟩) Bs (Fr.mk rfl ⟨rfl,rfl,rfl,trivial⟩)
 obtain ⟨f,I⟩:∃ f,k.fs[m]? = some f:=⟨_,List.getElem?_eq_getElem p⟩
 have J:fateOf k=f:=by unfold fateOf;rw [hm,Int.toNat_natCast,List.getD_eq_getElem?_getD,I];rfl
 obtain ⟨b,off,H,If,z0,z1,Z,Y⟩:=zok F.out.fts.1 I
 have Ct:(0:Int)≤(m:Int):=by omega
 have z:(m:Int)<(k.fs.length:Int):=by omega
 have l:=B.out.at 0 (.bool false) rfl
 have j:=B.out.at 1 (.int .i64 0) rfl
 have i:=B.out.at 2 (.bool false) rfl
 have g:=B.out.at 3 (.int .i64 0) rfl
 have q0:=B.out.frozen 0
 have q1:=B.out.frozen 1
 have q2:=B.out.frozen 2
 have t:=B.out.frozen 3
 have It:=B.out.lt
 rw [H] at c1
 have HFM:=Z9 I
 have y:=Z9 J
 have HAB:=Z9 H
 rw [H]
 clear I J H
 go_upto_region 9 with fail
 go_region
 go_upto_region 10 with fail
 obtain ⟨V,D⟩:=nm9 ((((G.setCell ⟨g3,0,none⟩ (.bool f.lost)).setCell ⟨g3,1,none⟩ (.int .i64 f.d)).setCell ⟨g3,2,none⟩ (.bool f.again)).setCell ⟨g3,3,none⟩ (.int .i64 f.ad))
 have E:Chg [g3] G V:=by
  rw [D]
  exact (Chg.of_only (OnlyB.setCell _ _ _ _) (by simp)).trans ((Chg.of_only (OnlyB.setCell _ _ _ _) (by simp)).trans ((Chg.of_only (OnlyB.setCell _ _ _ _) (by simp)).trans (Chg.of_only (OnlyB.setCell _ _ _ _) (by simp))))
 have x:Blk V g3 255 (Pc.row ⟨f,k.sent,now,false,A',c',zs⟩).toArray:=by
  rw [D]
  have v:=(((B.out.set_ 0 (.bool f.lost)).set_ 1 (.int .i64 f.d)).set_ 2 (.bool f.again)).set_ 3 (.int .i64 f.ad)
  exact v
 rw [← D]
 clear D l j i g P q0 q1 q2 t z0 z1 Z Y c1
 have E0:Below w0.heap.size w0 V:=⟨E.os.trans C.out.os,E.tape.trans C.out.tape,E.output.trans C.out.output,Nat.le_trans C.out.size E.size,fun q hq=>(E.block q (Nat.lt_of_lt_of_le hq C.out.size) (by simp;omega)).trans (C.out.block q hq)⟩
 have N:=F.out.mv (Mv.of_chg E (by simp)) (by simp;omega) (fun q hq=>by have:=Q.out q hq;simp;omega)
 have n:IntsAt V V.heap.size .u8 A' zs:=E.ints K.out.at_ (fun q0 b off e=>by simp;exact L q0 b off e)
 refine zao (by assumption) ?_
 refine h V.drew.drew _ g3 A' c' (N.mv (Mv.below (Below.drew (Below.drew (Below.refl V.heap.size V)))) (by simp) (by simp)) (by rw [y.out];exact x.drew.drew) O X n (fun q0 b off e=>⟨K.out.low q0 b off e,L q0 b off e⟩) (Below.drew (Below.drew E0)) (Fr.mk rfl ⟨rfl,rfl,rfl,trivial⟩)
section
variable {W W':World} {S:List Nat} {base gc g3:Nat} {k:Ca} {p:Pc}
theorem CaM.num (h:CaM W S base gc k) (hc:Chg [gc] W W') (s l n:Int) (hB:Blk W' gc 253 (Ca.row { k with sent:=s,lost:=l,now:=n }).toArray):CaM W' S base gc { k with sent:=s,lost:=l,now:=n } :=
 have hs:∀ x ∈ [gc],x∈S:=by intro x hx;simp at hx;rw [hx];exact h.gcS
 ⟨hB,hc.owns h.own (fun q hq hx=>by simp at hx;rw [hx] at hq;exact h.ne hq),h.ne,h.gcS,h.pS,h.fts.chg hc hs,fun p hp=>⟨(h.pay p hp).1.chg hc hs,(h.pay p hp).2⟩,h.ok,h.fok,fun x hx=>Nat.lt_of_lt_of_le (h.lt x hx) hc.size⟩
theorem CaM.sds (h:CaM W S base gc k) (h3:Blk W g3 255 p.row.toArray) (n1:ownB k.pA≠some g3) (n2:gc≠g3) (hb:base≤W.heap.size):SdS W gc g3 base k p:=⟨h.blk,h3,h.own,h.ne,n1,n2,hb⟩
theorem CaM.app {q:Pc} (h:CaM W S base gc k) (X:SdS W' gc g3 base { k with pA:=An,pc:=cn,ps:=k.ps ++ [q] } q) (hc:Chg (g3::gc::(ownB k.pA).toList) W W') (D:ownB An=ownB k.pA∨∀ g,ownB An=some g→W.heap.size≤g) (h3:g3∈S) (hp:IntsAv W S .u8 q.A q.zs∧0<q.zs.length∧q.zs.length≤2000) (ok:q.ok) :
 CaM W' ((ownB An).toList++S) base gc { k with pA:=An,pc:=cn,ps:=k.ps ++ [q] } ∧ Mv (g3::gc::(ownB k.pA).toList) S W ((ownB An).toList++S) W':=by
 have C:∀ x∈g3::gc::(ownB k.pA).toList,x∈S:=fun x hx=>by
  simp at hx
  rcases hx with e|e|e
  · rw [e];exact h3
  · rw [e];exact h.gcS
  · exact h.pS x e
 have m:Mv (g3::gc::(ownB k.pA).toList) S W ((ownB An).toList++S) W':=by
  refine ⟨fun x hx=>List.mem_append_right _ hx,fun x hx => ?_,hc,C,fun x hx => ?_⟩
  · rcases List.mem_append.1 hx with hx|hx
    · rcases D with e|e
      · rw [e] at hx;exact .inl (h.pS x (by simpa using hx))
      · exact .inr (e x (by simpa using hx))
    · exact .inl hx
  · rcases List.mem_append.1 hx with hx|hx
    · exact .inr (X.own.block x (by simpa using hx)).2
    · exact .inl hx
 refine ⟨⟨X.bc,X.own,X.ne,List.mem_append_right _ h.gcS,fun g hg=>List.mem_append_left _ (by rw [show ownB An=some g from hg];simp),m.rows h.fts,fun p B => ?_,fun p B => ?_,h.fok,fun x hx=>(m.lt x hx).elim (fun h1=>Nat.lt_of_lt_of_le (h.lt x h1) hc.size) id⟩,m⟩
 · rcases List.mem_append.1 B with B|B
   · exact ⟨m.ints (h.pay p B).1,(h.pay p B).2⟩
   · simp at B;rw [B];exact ⟨m.ints hp.1,hp.2⟩
 · rcases List.mem_append.1 B with B|B
   · exact h.ok p B
   · simp at B;rw [B];exact ok
end
theorem Ft.okD {k:Ca} (h:∀ f∈k.fs,f.ok):(fateOf k).ok:=by
 unfold fateOf
 rw [List.getD_eq_getElem?_getD]
 cases e:k.fs[k.sent.toNat]? with
 | none=>exact ⟨⟨by decide,by decide⟩,by decide,by decide⟩
 | some f=>exact h f (List.mem_of_getElem? e)
theorem zro {S:List Nat} {k:Ca} {zs:List Int} (M:CaM W S base gc k) (hb:base≤W.heap.size) (hI:IntsAt W W.heap.size .u8 A zs) (h0:0<zs.length) (hl:zs.length≤2000) (n0:k.now≤now) (n1:0≤now) (n2:now≤1000000) (s0:0≤k.sent) (s1:k.sent<10000) (hf:k.fs.length≤2000) (hp:k.ps.length≤990) (l0 : -100000≤k.lost∧k.lost≤100000) :
 Calls Tryz.prog 75 #[.pointer (some ⟨gc,0,none⟩), .string { data := #[97] }, .string { data := #[98] }, .slice A zs.length c, .int .i64 now] W (SendC S base gc k zs now W):=by
 refine zvh M hI h0 hl n0 n1 n2 s0 s1 hf (fun W' a g3 A' c' B E m l t Ao i P => ?_)
 obtain ⟨s,rfl,Ak⟩:=P
 simp only [rl9]
 obtain ⟨e0,e4,Ng,_⟩:=Ak
 rw [e0,e4,Ng]
 have x3:=B.blk.at 3 (.int .i64 k.sent) rfl
 have x4:=B.blk.at 4 (.int .i64 k.lost) rfl
 have x5:=B.blk.at 5 (.int .i64 k.now) rfl
 have f3:=B.blk.frozen 3
 have f4:=B.blk.frozen 4
 have f5:=B.blk.frozen 5
 have Ax:=B.blk.lt
 have zU:=E.lt
 have Yl:=M.blk.lt
 have n9:gc≠g3:=by omega
 have n8:ownB k.pA≠some g3:=fun e=>by have:=(M.own.block g3 e).2;omega
 have o:=Ft.okD M.fok
 obtain ⟨f,d⟩:=nm9 (fateOf k)
 rw [← d] at E o
 have Fg:copies f k.sent now A' c' zs=copies (fateOf k) k.sent now A' c' zs:=by rw [d]
 have yC:∀ b,(⟨f,k.sent,now,b,A',c',zs⟩:Pc).ok:=fun b=>⟨o,n1,n2⟩
 have NC:IntsAv W' (g3::S) .u8 A' zs:=⟨t,fun q0 b off e hx=>by
  obtain ⟨q1,q2⟩:=Ao q0 b off e
  rcases List.mem_cons.1 hx with U|U
  · exact q2 U
  · have:=M.lt b U;omega⟩
 have y0:=E.at 0 (.bool f.lost) rfl
 have Q:Mv (gc::(ownB k.pA).toList) S W (g3::S) W':=(Mv.add i m zU).weak (fun x hx=>by
  simp at hx
  rcases hx with e|e
  · rw [e];exact M.gcS
  · exact M.pS x e)
 have y4:=E.at 4 (.int .i64 k.sent) rfl
 obtain ⟨no,Fc⟩:=nm9 k.sent
 obtain ⟨V,J⟩:=nm9 ((W'.setCell ⟨gc,3,none⟩ (.int .i64 (k.sent+1))).setCell ⟨gc,5,none⟩ (.int .i64 now))
 have D:Chg [gc] W' V:=by
  rw [J]
  exact (Chg.of_only (OnlyB.setCell _ _ _ _) (by simp)).trans (Chg.of_only (OnlyB.setCell _ _ _ _) (by simp))
 have F:Blk V gc 253 (Ca.row { k with sent:=k.sent+1,lost:=k.lost,now:=now }).toArray:=by
  rw [J]
  exact (B.blk.set_ 3 (.int .i64 (k.sent+1))).set_ 5 (.int .i64 now)
 have M1:=B.num D (k.sent+1) k.lost now F
 have H:Blk V g3 255 (Pc.row ⟨f,k.sent,now,false,A',c',zs⟩).toArray:=D.blk E (by simp;exact n9.symm)
 have y:=NC.chg D (by intro x hx;simp at hx;rw [hx];exact List.mem_cons_of_mem _ M.gcS)
 have z:Mv (gc::(ownB k.pA).toList) S W (g3::S) V:=Q.trans (Mv.of_chg D (by intro x hx;simp at hx;rw [hx];exact List.mem_cons_of_mem _ M.gcS)) (by intro x hx;simp at hx;rw [hx];exact .inl List.mem_cons_self)
 have z0:=H.at 0 (.bool f.lost) rfl
 have z4:=H.at 4 (.int .i64 k.sent) rfl
 have v4:=F.at 4 (.int .i64 k.lost) rfl
 have fv4:=F.frozen 4
 have zP:gc<V.heap.size:=F.lt
 have HV:=Z9 J
 have K:=Z9 M1
 have u:=Z9 H
 have Ut:=Z9 y
 have j:=Z9 z
 have B6:base≤V.heap.size:=Nat.le_trans hb (Nat.le_trans i.size D.size)
 have Y:=Z9 Fg
 clear J D F M1 H y z Q NC Ao t i B E d o Fc Fg
 refine zas ?_
 intro _ _
 go_upto_region 12 with fail
 rw [← HV.out]
 clear x3 x4 x5 f3 f4 f5 HV y0 y4
 by_cases n:f.lost=true
 · rw [n] at z0
   go_upto_region 14 with fail
   obtain ⟨W2,O⟩:=nm9 (V.setCell ⟨gc,4,none⟩ (.int .i64 (k.lost+1)))
   have L:Chg [gc] V W2:=by rw [O];exact Chg.of_only (OnlyB.setCell _ _ _ _) (by simp)
   have Fi:Blk W2 gc 253 (Ca.row { k with sent:=k.sent+1,lost:=k.lost+1,now:=now }).toArray:=by rw [O];exact K.out.blk.set_ 4 _
   have w4:W2.cell? ⟨g3,4,none⟩=some (.int .i64 k.sent):=(L.blk u.out (by simp;exact n9.symm)).at 4 _ rfl
   rw [← O]
   clear O
   have G:=K.out.num L (k.sent+1) (k.lost+1) now Fi
   have m2:=j.out.trans (Mv.of_chg L (by intro x hx;simp at hx;rw [hx];exact List.mem_cons_of_mem _ M.gcS)) (by intro x hx;simp at hx;rw [hx];exact .inl List.mem_cons_self)
   have Fp:=Z9 G
   have EX:=Z9 m2
   clear G m2 L Fi
   go_wp2_with fail
   go_ret2
   exact ⟨_,_,A',c',rfl,Fp.out,EX.out,rfl,rfl,⟨rfl,(by show k.lost≤k.lost+1;omega),Int.le_refl _⟩,Or.inl rfl,l,by rw [← Y.out];simp [copies,n]⟩
 have X:f.lost=false:=by simpa using n
 rw [X] at z0
 go_upto_region 15 with fail
 refine zao (by assumption) ?_
 have v:=yC
 have I:W.heap.size≤V.heap.size:=j.out.chg.size
 refine zvf (now:=now) (p:=⟨f,k.sent,now,false,A',c',zs⟩) (K.out.sds u.out n8 n9 B6) (show k.ps.length≤1000 by omega) (fun W2 a An cn w Iz N P => ?_) _ (Fr.mk rfl ⟨rfl,rfl,rfl,trivial⟩)
 obtain ⟨G,m2⟩:=K.out.app w (Iz.more (fun x hx=>List.mem_cons_of_mem _ hx)) N List.mem_cons_self ⟨Ut.out,h0,hl⟩ (v false)
 have mm:=j.out.trans m2 (fun x hx=>by
  rcases List.mem_cons.1 hx with e|e
  · rw [e];exact .inr m
  · exact .inl e)
 refine zvg w (show (k.ps ++ [_]).length≤1000 by simp;omega) (fun T => ?_) (fun T W3 An3 cn3 X3 jT Tm => ?_) _ P
 · exact ⟨_,_,A',c',rfl,G,mm,rfl,rfl,⟨rfl,Int.le_refl _,(by show k.lost≤k.lost+1;omega)⟩,N.imp id (fun h g e=>Nat.le_trans I (h g e)),l,by rw [← Y.out];have Z:f.again=false:=T;simp [copies,X,Z]⟩
 · obtain ⟨M3,m3⟩:=G.app X3 jT Tm (List.mem_append_right _ List.mem_cons_self) ⟨m2.ints Ut.out,h0,hl⟩ (v true)
   have XF:=mm.trans m3 (fun x hx=>by
    simp at hx
    rcases hx with e|e|e
    · rw [e];exact .inr m
    · rw [e];exact .inl List.mem_cons_self
    · rcases N with C|C
      · rw [C] at e;exact .inl (List.mem_cons_of_mem _ (by simpa using e))
      · exact .inr (Nat.le_trans I (C x e)))
   have CG:W.heap.size≤W2.heap.size:=Nat.le_trans I m2.chg.size
   exact ⟨_,_,A',c',rfl,M3,XF,rfl,rfl,⟨rfl,Int.le_refl _,(by show k.lost≤k.lost+1;omega)⟩,by
    rcases Tm with C|C
    · rcases N with R|R
      · exact .inl (C.trans R)
      · exact .inr (fun g e=>Nat.le_trans I (R g (C ▸ e)))
    · exact .inr (fun g e=>Nat.le_trans CG (C g e)),l,by rw [← Y.out];have Z:f.again=true:=T;simp [copies,X,Z]⟩
theorem Chg.new {S:List Nat} (h:Chg S w w') (ho:OnlyB g w' w'') (hg:w.heap.size≤g):Chg S w w'':=by
 have h2:Chg (g::S) w w'':=(h.more (fun x hx=>List.mem_cons_of_mem _ hx)).trans (Chg.of_only ho (by simp))
 exact h2.less hg
section
variable {w w' w'':World} {S:List Nat} {gf of_ gt ot:Nat} {tf tt:TypeId} {cf ct:List Value} {c:Int} {p u:Sb.Pt} {i:Nat} {tk:Option Sb.Sd} {A1:Option Addr} {c1:Nat} {A2:Option Addr} {n2 c2:Nat} {l2:List TW} {ZA:Option Addr} {zs:List Int} {p' u':Sb.Pt} {sI:Option Addr} {Ra:Nat} {sH:Option Addr} {mL Od:Nat} {mN:List TW} {kd:Int} {TA:Option Addr} {tz:List Int} {SA:Option Addr} {ls:List TS} {tk':Option Sb.Sd}
theorem HC.drew (h:HC w S gf of_ gt ot tf tt cf ct c p u i tk A1 c1 A2 n2 c2 l2 ZA zs):HC w.drew S gf of_ gt ot tf tt cf ct c p u i tk A1 c1 A2 n2 c2 l2 ZA zs :=
 ⟨h.bf,h.bt,h.ne,h.sf,h.st,h.sw,h.pf,h.lf,h.pt,h.lt,h.k1,h.hq,h.hn,h.hc,h.hm,⟨h.q.wts,h.q.row,h.q.pay⟩,h.hop,h.i40,h.z,h.zl,h.zb⟩
theorem HC.add (h:HC w S gf of_ gt ot tf tt cf ct c p u i tk A1 c1 A2 n2 c2 l2 ZA zs) (o:Obj):HC (w.alloc o) (w.heap.size::S) gf of_ gt ot tf tt cf ct c p u i tk A1 c1 A2 n2 c2 l2 ZA zs:=by
 have hb:=(Below.refl w.heap.size w).alloc (Nat.le_refl _) o
 refine ⟨h.bf.push _,h.bt.push _,h.ne,List.mem_cons_of_mem _ h.sf,List.mem_cons_of_mem _ h.st,fun x hx => ?_,h.pf,h.lf,h.pt,h.lt,h.k1,h.hq,h.hn,h.hc,h.hm,(h.q.add (Nat.le_refl _)).later hb,h.hop,h.i40,h.z.push _,h.zl,h.zb⟩
 rcases List.mem_cons.1 hx with e|hx
 · rw [e];simp
 · have:=h.sw x hx;simp;omega
theorem HR.add (h:HR w w' S gf of_ gt ot tf tt cf ct c p i tk zs p' u' sI Ra sH mL Od mN kd TA tz SA ls tk') (o:Obj):HR w (w'.alloc o) (w'.heap.size::S) gf of_ gt ot tf tt cf ct c p i tk zs p' u' sI Ra sH mL Od mN kd TA tz SA ls tk':=by
 have hb:=(Below.refl w'.heap.size w').alloc (Nat.le_refl _) o
 have hr:RowsAv w' (w'.heap.size::S) 3 TS.row SA ls:=⟨h.sd.1.1,fun h0 b off e hx=>by
  rcases List.mem_cons.1 hx with C|hx
  · obtain ⟨E,F,A,hlt,_⟩:=h.sd.1.1 h0
    rw [e] at A;injection A with A;injection A with D _;omega
  · exact h.sd.1.2 h0 b off e hx⟩
 exact ⟨h.bf.push _,h.k1,h.bt.push _,h.hq,h.hn,h.hc,h.hm,(h.q.add (Nat.le_refl _)).later hb,h.hop,h.tick,(h.tza.add (Nat.le_refl _)).chg (T:=[]) (Chg.of_below hb) (by simp),h.f2,
  SdAv.later ⟨hr,fun a B=>(h.sd.2 a B).add (Nat.le_refl _)⟩ hb,h.bd,h.ch.push _,h.en⟩
theorem HR.set (h:HR w w' (g::S) gf of_ gt ot tf tt cf ct c p i tk zs p' u' sI Ra sH mL Od mN kd TA tz SA ls tk') (ho:OnlyB g w' w'') (h1:gf≠g) (h2:gt≠g) (hg:w.heap.size≤g):HR w w'' (g::S) gf of_ gt ot tf tt cf ct c p i tk zs p' u' sI Ra sH mL Od mN kd TA tz SA ls tk':=by
 have hc:Chg [g] w' w'':=Chg.of_only ho (by simp)
 have hm:∀ x ∈ [g],x∈g::S:=by intro x hx;simp at hx;simp [hx]
 exact ⟨ho.blk h.bf h1,h.k1,ho.blk h.bt h2,h.hq,h.hn,h.hc,h.hm,h.q.chg hc hm,h.hop,h.tick,h.tza.chg hc hm,h.f2,h.sd.chg hc hm,h.bd,h.ch.new ho hg,h.en⟩
theorem HR.at (h:HR w w' S gf of_ gt ot tf tt cf ct c p i tk zs p' u' sI Ra sH mL Od mN kd TA tz SA ls tk') (hc:Chg [gf,gt] v w'):HR v w' S gf of_ gt ot tf tt cf ct c p i tk zs p' u' sI Ra sH mL Od mN kd TA tz SA ls tk' :=
 ⟨h.bf,h.k1,h.bt,h.hq,h.hn,h.hc,h.hm,h.q,h.hop,h.tick,h.tza,h.f2,h.sd,h.bd,hc,h.en⟩
end
noncomputable def vr24_code:Code:=((Tryz.f3.body.bind (findRegS 24)).getD .skip)
noncomputable def vr36_code:Code:=((Tryz.f3.body.bind (findRegS 36)).getD .skip)
theorem zrp (hs:List TF):∀ (k:Nat) (a:TF),(hs.set k a).flatMap TF.row=(hs.flatMap TF.row).set k (.slice a.A a.zs.length a.c):=by
 induction hs with
 | nil=>intro k a;rfl
 | cons b hs ih =>
   intro k a
   cases k with
   | zero=>rfl
   | succ k =>
     rw [List.set_cons_succ,List.flatMap_cons,List.flatMap_cons,ih k a]
     show [Value.slice b.A b.zs.length b.c]++_=([Value.slice b.A b.zs.length b.c]++_).set (k+1) _
     rfl
structure FV (W:World) (b:VB) (gF:Nat) (fr:List TF):Prop where
 blk:Blk W gF 51 (fr.flatMap TF.row).toArray
 pay:∀ a∈fr,IntsAv W ([gF]++b.S) .i16 a.A a.zs
 z160:∀ a∈fr,a.zs.length≤160
 bd:∀ a∈fr,Within (-32768) 32767 a.zs
section
variable {W W':World} {b:VB} {gF:Nat} {fr:List TF}
theorem FV.chg (h:FV W b gF fr) (hc:Chg T W W') (hs:∀ x∈T,x ∈ [gF]++b.S) (hg:gF∉T):FV W' b gF fr:=⟨hc.blk h.blk hg,fun a A=>(h.pay a A).chg hc hs,h.z160,h.bd⟩
theorem FV.later (h:FV W b gF fr) (hb:Below W.heap.size W W'):FV W' b gF fr:=h.chg (T:=[]) (Chg.of_below hb) (by simp) (by simp)
theorem FV.push (h:FV W b gF fr) (o:Obj):FV (W.alloc o) b gF fr:=h.later ((Below.refl _ _).alloc (Nat.le_refl _) _)
theorem FV.set (h:FV W b gF fr) (k:Nat) (a:TF) (C:IntsAv W ([gF]++b.S) .i16 a.A a.zs) (h1:a.zs.length≤160) (h2:Within (-32768) 32767 a.zs):FV (W.setCell ⟨gF,k,none⟩ (.slice a.A a.zs.length a.c)) b gF (fr.set k a):=by
 have hc:Chg [gF] W (W.setCell ⟨gF,k,none⟩ (.slice a.A a.zs.length a.c)):=Chg.of_only (OnlyB.setCell W gF k _) (by simp)
 have hm:∀ x ∈ [gF],x ∈ [gF]++b.S:=fun x hx=>List.mem_append_left _ hx
 have B:∀ x∈fr.set k a,x∈fr∨x=a:=fun x hx=>List.mem_or_eq_of_mem_set hx
 refine ⟨?_,fun x hx => ?_,fun x hx => ?_,fun x hx => ?_⟩
 · rw [zrp]
   have:=Blk.set_ h.blk k (.slice a.A a.zs.length a.c)
   simpa using this
 · rcases B x hx with e|e
   · exact (h.pay x e).chg hc hm
   · rw [e];exact C.chg hc hm
 · rcases B x hx with e|e
   · exact h.z160 x e
   · rw [e];exact h1
 · rcases B x hx with e|e
   · exact h.bd x e
   · rw [e];exact h2
end
def FMs (b:VB) (LA:Option Addr) (ln lc n i:Nat):List (Nat×Value):=[(2, .slice LA ln lc),(3, .pointer (some ⟨b.gC,0,none⟩)),(4, .pointer (some ⟨b.gL,0,none⟩)),(7, .int .i64 (n:Int)),(8, .pointer (some ⟨b.gm,0,none⟩)),(9, .pointer (some ⟨b.gi,0,none⟩)),(10, .pointer (some ⟨b.go,0,none⟩)),(11, .pointer (some ⟨b.ge,0,none⟩)),(18, .pointer (some ⟨b.gsd,0,none⟩)),(19, .pointer (some ⟨b.gst,0,none⟩)),(20, .int .i64 (i:Int))]
theorem at4 {α : Type} (f:Nat → α) (k:Nat) (hk:k<4):[f 0,f 1,f 2,f 3][k]? = some (f k):=by
 have h:k=0∨k=1∨k=2∨k=3:=by omega
 rcases h with rfl|rfl|rfl|rfl<;>rfl
theorem VM.codec {b:VB} {cs ls:Nat→Int} {fm fi fo fe:Nat→PQ} {ts tt:Nat→TQ} (h:VM w W b F cs ls fm fi fo fe ts tt) (k:Nat) (hk:k<4):W.cell? ⟨b.gC,k,none⟩=some (.int .u8 (cs k)):=by
 refine h.bC.at k _ ?_
 have:=at4 (fun j=>Value.int .u8 (cs j)) k hk
 simpa using this
noncomputable def vmA_code:Code:=(((findB 5 (Tryz.f3.body.getD .skip)).bind (fromReg 21)).getD .skip)
noncomputable def vmB_code:Code:=(((findB 5 (Tryz.f3.body.getD .skip)).bind (fromReg 24)).getD .skip)
noncomputable def vmC_code:Code:=(((findB 5 (Tryz.f3.body.getD .skip)).bind (fromReg 25)).getD .skip)
noncomputable def vm18_code:Code:=(((findB 3 (Tryz.f3.body.getD .skip)).bind (fromReg 18)).getD .skip)
noncomputable def vm30_code:Code:=(((findB 3 (Tryz.f3.body.getD .skip)).bind (fromReg 30)).getD .skip)
structure MV (W:World) (b:VB) (gF gM:Nat) (fs:List (List Int)) (hs:List TF):Prop where
 row:∀ (k:Nat) (a:TF),hs[k]? = some a→W.cell? ⟨gM,k,none⟩=some (.slice a.A a.zs.length a.c)
 lt:gM<W.heap.size
 av:gM ∉ [gF]++b.S
 pay:∀ a∈hs,IntsAv W ([gF]++b.S) .i16 a.A a.zs
 val:hs.map TF.zs=(List.range fs.length).map (Sb.mixL fs)
theorem MV.chg {b:VB} {fs:List (List Int)} (h:MV W b gF gM fs hs) (hc:Chg T W W') (ht:∀ x∈T,x ∈ [gF]++b.S):MV W' b gF gM fs hs :=
 ⟨fun k a A=>(hc.cell (p:=⟨gM,k,none⟩) h.lt (fun hx=>h.av (ht _ hx))).trans (h.row k a A),Nat.lt_of_lt_of_le h.lt hc.size,h.av,fun a A=>(h.pay a A).chg hc ht,h.val⟩
theorem MV.later {b:VB} {fs:List (List Int)} (h:MV W b gF gM fs hs) (hb:Below W.heap.size W W'):MV W' b gF gM fs hs:=h.chg (T:=[]) (Chg.of_below hb) (by simp)
theorem MV.len {b:VB} {fs:List (List Int)} (h:MV W b gF gM fs hs):hs.length=fs.length:=by have:=congrArg List.length h.val;simpa using this
theorem MV.zs {b:VB} {fs:List (List Int)} (h:MV W b gF gM fs hs) {k:Nat} {a:TF} (A:hs[k]? = some a):a.zs=Sb.mixL fs k:=by
 have h1:(hs.map TF.zs)[k]? = some a.zs:=by rw [List.getElem?_map,A];rfl
 have hk:k<fs.length:=by rw [← h.len];exact (List.getElem?_eq_some_iff.1 A).1
 rw [h.val,List.getElem?_map,List.getElem?_range hk] at h1
 injection h1 with h1
 exact h1.symm
noncomputable def vm33_code:Code:=(((findB 3 (Tryz.f3.body.getD .skip)).bind (fromReg 33)).getD .skip)
noncomputable def vm36_code:Code:=(((findB 7 (Tryz.f3.body.getD .skip)).bind (fromReg 36)).getD .skip)
noncomputable def vm37_code:Code:=(((findB 7 (Tryz.f3.body.getD .skip)).bind (fromReg 37)).getD .skip)
noncomputable def vm39_code:Code:=(((findB 7 (Tryz.f3.body.getD .skip)).bind (fromReg 39)).getD .skip)
theorem Frs.later {l:List TF} (h:Frs w w.heap.size A l) (hb:Below w.heap.size w w'):Frs w' w'.heap.size A l:=⟨(h.1.keep fun _ hp=>hb.cell hp).more hb.size,fun a B=>(h.2 a B).later hb⟩
noncomputable def vm13_code:Code:=((Tryz.f3.body.bind (fromReg 13)).getD .skip)
noncomputable def vm44_code:Code:=((Tryz.f3.body.bind (fromReg 44)).getD .skip)
theorem zrq (n:Nat):(List.replicate n (⟨none,0,[]⟩:TF)).flatMap TF.row=List.replicate n (.slice none 0 0):=by
 induction n with
 | zero=>rfl
 | succ n ih=>rw [List.replicate_succ,List.flatMap_cons,ih];rfl
theorem FV.new (W:World) (b:VB) (n:Nat):FV (W.alloc (.cells (madeCells #[.slice none 0 0] n) 51)) b W.heap.size (List.replicate n ⟨none,0,[]⟩):=by
 refine ⟨?_,fun a A => ?_,fun a A => ?_,fun a A => ?_⟩
 · rw [zrq,← zny];exact Blk.new W _ _
 all_goals rw [List.eq_of_mem_replicate A]
 · exact IntsAv.nil
 · exact Nat.zero_le _
 · intro z hz;cases hz
def FM0 (b:VB) (LA:Option Addr) (ln lc n:Nat):List (Nat×Value):=[(2, .slice LA ln lc),(3, .pointer (some ⟨b.gC,0,none⟩)),(4, .pointer (some ⟨b.gL,0,none⟩)),(7, .int .i64 (n:Int)),(8, .pointer (some ⟨b.gm,0,none⟩)),(9, .pointer (some ⟨b.gi,0,none⟩)),(10, .pointer (some ⟨b.go,0,none⟩)),(11, .pointer (some ⟨b.ge,0,none⟩)),(18, .pointer (some ⟨b.gsd,0,none⟩)),(19, .pointer (some ⟨b.gst,0,none⟩))]
def NewP (k src l m:Int) (w:World) (e:Ending) (w':World):Prop:=e = .returned (.tuple #[.agg (PA (Sb.new k src l m).1 none 0 0), .int .u8 (Sb.new k src l m).2])∧Below w.heap.size w w'
theorem zou (k src l m:Int) (h0:0≤k) (h1:k≤255) (w:World):Calls Tryz.prog 5 #[.int .u8 k, .int .u32 src, .agg #[.int .i64 l, .int .i64 m]] w (NewP k src l m w):=by
 have G:=Z9 ((Blk.new w 34 #[.int .i64 l, .int .i64 m]).push (.cells (PA Sb.Pt.zero none 0 0) 45))
 have D:=Z9 (Blk.new1 w (.cells #[.int .i64 l, .int .i64 m] 34) 45 (PA Sb.Pt.zero none 0 0))
 have C:=Z9 (((Bel.refl w).push (.cells #[.int .i64 l, .int .i64 m] 34)).push (.cells (PA Sb.Pt.zero none 0 0) 45))
 have k1:=Z9 fun W=>zdm k W h0 h1
 have M:=Z9 fun W=>zus l m W
 unfold NewR at M
 obtain ⟨v,hv⟩:=nm9 (speechB k)
 rw [← hv] at k1
 have O:=Z9 hv
 clear hv
 go_enter Tryz.func5,Tryz.ntmps5
 go_upto_region 1 with fail
 change Code.wp _ _ _ _ ((w.alloc (Obj.cells #[.int .i64 l, .int .i64 m] 34)).alloc (Obj.cells (PA Sb.Pt.zero none 0 0) 45))
 obtain ⟨W,N⟩:=nm9 ((w.alloc (Obj.cells #[.int .i64 l, .int .i64 m] 34)).alloc (Obj.cells (PA Sb.Pt.zero none 0 0) 45))
 rw [← N] at G D C ⊢
 clear N
 go_wp2_with fail
 refine (k1.out _).mono ?_
 rintro e w1 ⟨rfl,I⟩
 replace C:=Z9 (C.out.later I)
 replace G:=Z9 (G.out.later I)
 replace D:=Z9 (D.out.later I)
 have hlt:=D.out.lt
 clear I
 cases v
 · have B:Hid (Sb.new k src l m=(Sb.Pt.zero,15)):=Z9 (by unfold Sb.new;rw [← O.out,if_pos rfl])
   go_wp2_with (first|(refine zag rfl 45 (.tmp 6) (.tmp 13) rfl (w.heap.size+1) 0 rfl 45 (PL Sb.Pt.zero none 0 0) D.out (PL Sb.Pt.zero none 0 0) rfl zai (show 0+48≤48 by decide) rfl (PL Sb.Pt.zero none 0 0) rfl ?_;intro WH F E)|fail)
   refine bodyPost_ret (v := .tuple #[.agg (PA (Sb.new k src l m).1 none 0 0), .int .u8 (Sb.new k src l m).2]) (zem Tryz.results5 rfl (by rw [B.out];exact PB.load F) (by rw [B.out];rfl)) rfl ⟨rfl,E.bel C.out (by omega)⟩
 have c0:=G.out.at 0 _ rfl
 have c1:=G.out.at 1 _ rfl
 go_wp2_with fail
 refine (M.out _).mono ?_
 rintro e w2 ⟨rfl,L⟩
 replace C:=Z9 (C.out.later L)
 replace D:=Z9 (D.out.later L)
 have B:Hid (Sb.new k src l m=(if (Jb.new l m).2=0 then { Sb.Pt.zero with codec:=k,src:=src,mrk:=true,jt:=(Jb.new l m).1,seed:=src } else Sb.Pt.zero,(Jb.new l m).2)):=Z9 (by
  unfold Sb.new Jb.new
  rw [← O.out,if_neg (by decide)]
  by_cases hc:Jb.cfg l m
  · rw [if_pos hc,if_pos hc];rfl
  · rw [if_neg hc,if_neg hc];rfl)
 have U:=C.out.size
 clear L c0 c1
 unfold JV
 generalize Jb.new l m=R at *
 obtain ⟨A,T⟩:=R
 simp only at B
 have P:=Z9 (Blk.new w2 37 (JW A none 0 0).toArray)
 obtain ⟨g1,J⟩:=nm9 w2.heap.size
 obtain ⟨W3,H⟩:=nm9 (w2.alloc (.cells (JW A none 0 0).toArray 37))
 have K:=Z9 (show Below w2.heap.size w2 W3 by rw [H];exact (Below.refl _ _).alloc (Nat.le_refl _) _)
 rw [← J,← H] at P
 go_upto_region 4 with fail
 rw [← J]
 change Code.wp _ _ _ _ (w2.alloc (Obj.cells (JW A none 0 0).toArray 37))
 rw [← H]
 replace C:=Z9 (C.out.later K.out)
 replace D:=Z9 (D.out.later K.out)
 clear H J K
 by_cases hr:T=0
 rotate_left
 · replace B:=Z9 (B.out.trans (by rw [if_neg hr]))
   go_wp2_with (first|(refine zag rfl 45 (.tmp 6) (.tmp 21) rfl (w.heap.size+1) 0 rfl 45 (PL Sb.Pt.zero none 0 0) D.out (PL Sb.Pt.zero none 0 0) rfl zai (show 0+48≤48 by decide) rfl (PL Sb.Pt.zero none 0 0) rfl ?_;intro WH F E)|fail)
   refine bodyPost_ret (v := .tuple #[.agg (PA (Sb.new k src l m).1 none 0 0), .int .u8 (Sb.new k src l m).2]) (zem Tryz.results5 rfl (by rw [B.out];exact PB.load F) (by rw [B.out];rfl)) rfl ⟨rfl,E.bel C.out (by omega)⟩
 subst hr
 replace B:=Z9 (B.out.trans (by rw [if_pos rfl]))
 go_wp2_with (first|(refine zaf rfl 37 (.tmp 8) rfl (g1) 0 rfl 37 (JW A none 0 0) P.out 14 _ Tryz.underlying37 zbg (show 0+14≤14 by decide) (#[.int .i64 A.least, .int .i64 A.most, .int .i64 A.now, .bool A.on, .int .i64 A.zero, .int .i64 A.first, .int .i64 A.high, .int .i64 A.done, .int .i64 A.spread, .int .i64 A.trans, .slice none 0 0, .int .i64 A.late, .int .i64 A.twice, .int .i64 A.played]) (by rfl) rfl ?_)|(refine zag rfl 45 (.tmp 6) (.tmp 27) rfl (w.heap.size+1) 0 rfl 45 (PL Sb.Pt.zero none 0 0) D.out (PL { Sb.Pt.zero with codec:=k,src:=src,mrk:=true,jt:=A,seed:=src } none 0 0) rfl zai (show 0+48≤48 by decide) rfl (PL { Sb.Pt.zero with codec:=k,src:=src,mrk:=true,jt:=A,seed:=src } none 0 0) rfl ?_;intro WH F E)|fail)
 refine bodyPost_ret (v := .tuple #[.agg (PA (Sb.new k src l m).1 none 0 0), .int .u8 (Sb.new k src l m).2]) (zem Tryz.results5 rfl (by rw [B.out];exact PB.load F) (by rw [B.out];rfl)) rfl ⟨rfl,E.bel C.out (by omega)⟩
noncomputable def vr7_code:Code:=((Tryz.f3.body.bind (findRegS 7)).getD .skip)
noncomputable def vr8_code:Code:=((Tryz.f3.body.bind (findRegS 8)).getD .skip)
noncomputable def vr11_code:Code:=((Tryz.f3.body.bind (findRegS 11)).getD .skip)
noncomputable def vm4_code:Code:=((Tryz.f3.body.bind (fromReg 4)).getD .skip)
noncomputable def vm12_code:Code:=((Tryz.f3.body.bind (fromReg 12)).getD .skip)
structure VN (w W:World) (b:VB) (cs ls:Nat→Int) (fm fi fo fe:Nat→PQ):Prop where
 o0:w.heap.size≤b.gC
 o1:b.gC<b.gL
 o2:b.gL<b.gm
 o3:b.gm<b.gi
 o4:b.gi<b.go
 o5:b.go<b.ge
 o6:b.ge<b.gcf
 bC:Blk W b.gC 22 #[.int .u8 (cs 0), .int .u8 (cs 1), .int .u8 (cs 2), .int .u8 (cs 3)]
 bL:Blk W b.gL 24 #[.int .u16 (ls 0), .int .u16 (ls 1), .int .u16 (ls 2), .int .u16 (ls 3)]
 bm:Blk W b.gm 46 (row4 fm).toArray
 bi:Blk W b.gi 46 (row4 fi).toArray
 bo:Blk W b.go 46 (row4 fo).toArray
 be:Blk W b.ge 46 (row4 fe).toArray
 bg:Blk W b.gcf 34 #[.int .i64 20, .int .i64 200]
 li:∀ k,(fi k).l=[]
 le:∀ k,(fe k).l=[]
 bel:Bel w W
theorem VN.later {b:VB} {cs ls:Nat→Int} {fm fi fo fe:Nat→PQ} (h:VN w W b cs ls fm fi fo fe) (hb:Below W.heap.size W W'):VN w W' b cs ls fm fi fo fe :=
 ⟨h.o0,h.o1,h.o2,h.o3,h.o4,h.o5,h.o6,h.bC.later hb,h.bL.later hb,h.bm.later hb,h.bi.later hb,h.bo.later hb,h.be.later hb,h.bg.later hb,h.li,h.le,h.bel.later hb⟩
theorem VN.codec {b:VB} {cs ls:Nat→Int} {fm fi fo fe:Nat→PQ} (h:VN w W b cs ls fm fi fo fe) (k:Nat) (hk:k<4):W.cell? ⟨b.gC,k,none⟩=some (.int .u8 (cs k)):=by
 refine h.bC.at k _ ?_
 have:=at4 (fun j=>Value.int .u8 (cs j)) k hk
 simpa using this
end
end Go.Proofs.YtbcgnddpkiemoaaGreat
