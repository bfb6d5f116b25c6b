/- The top of layer 32: VoiceMixes: all of it, given what the live call does. -/
import Derived.Test.YtbcgnddpkiemoaaGreatSs9Q
import Derived.Test.YtbcgnddpkiemoaaGreatSbRecvQ
import Derived.Test.YtbcgnddpkiemoaaGreatJtPnQ
import Derived.Test.YtbcgnddpkiemoaaGreatPkEncPQ
import Derived.Test.YtbcgnddpkiemoaaGreatVoFunQ
set_option linter.unusedVariables false
set_option linter.unusedSimpArgs false
set_option maxRecDepth 100000
set_option maxHeartbeats 12800000
namespace Go.Proofs.YtbcgnddpkiemoaaGreat
variable {w W W0 W' wr X w1 W'':World} {n i gW gc c sc j kk B g3 gX cm ce cp g:Nat} {A SA Mx Et Pl:Option Addr} {d vd sq pt t:Int} {s1 s2 s3 s5 s6 s7 s8 s9 Jh Nv Hz Iq Ox Kc Kb Na Jo Nu Mz My Mw Mu Mt Ms Mr Mq Mp Mo Ns Nr Nq Np Mn Mm Ml Mk Mj Mi Ka Jz Jy Mh Mg Mf Me Mc Mb Ma Lz Ly Lx Lw Jg Nn Lv Lu Nm Nl Nk Nj Ni Lt Ls Lr Lq Lp Jn Lo Ln Lm Ll Lk Lj Li Lh Lg Lf Le Ld Lc Lb La Kz Ky Kx Kw Kv Ku Kt Ks Kr Kq Jf Jx Jw Je Jv Ju Ci Ch Cg Cf Ce Cq Dm Dl Dk Dj Di Dh Er Eq Ep Eo En Em El Ek Ej Ei Eh Eg Ef Ee Ed Ec Eb Ea Dz Dy Dx Dw Dv Du Dt Ds Dr Io In Il Ik Ij Ii Ih Ht Hs Hr Hq Hp Ho Hn Hl Hk Hj Hi Hh Hg Hf He Hd Hc Hb Ha Gz Gy Gx Gw Gv Gu Gt Gs Gr Gq Gp Gn Gm Gl Gk Gj Gi Gh Gg Gf Ge Gd Gc Gb Ga Fz Fy Fx Fw Fv Fu Fs Fq Wc Wb Wa Vz Vy Vx Vw Vv Vu Vt Vs Vr Vq Vp Vo Vn Vm Vl Vk Vj Vi Vh Vg Vf Ve Vd Vc s4:Value} {Sw T uV:List Nat} {ls:List TS} {f:TF} {cs:Array Value}
section
attribute [local go_sem ↓] zab zac
attribute [local go_sem] zaa zad
open Go.RowKit
theorem blk4 (w:World) (o1 o2 o3:Obj) (o4:Obj) (t:TypeId) (cs:Array Value):Blk (((((w.alloc o1).alloc o2).alloc o3).alloc o4).alloc (.cells cs t)) (w.heap.size+1+1+1+1) t cs:=by
 have h:=Blk.new ((((w.alloc o1).alloc o2).alloc o3).alloc o4) t cs
 simpa using h
theorem blk5 (w:World) (o1 o2 o3 o4 o5:Obj) (t:TypeId) (cs:Array Value):Blk ((((((w.alloc o1).alloc o2).alloc o3).alloc o4).alloc o5).alloc (.cells cs t)) (w.heap.size+1+1+1+1+1) t cs:=by
 have h:=Blk.new (((((w.alloc o1).alloc o2).alloc o3).alloc o4).alloc o5) t cs
 simpa using h
theorem blk6 (w:World) (o1 o2 o3 o4 o5 o6:Obj) (t:TypeId) (cs:Array Value):Blk (((((((w.alloc o1).alloc o2).alloc o3).alloc o4).alloc o5).alloc o6).alloc (.cells cs t)) (w.heap.size+1+1+1+1+1+1) t cs:=by
 have h:=Blk.new ((((((w.alloc o1).alloc o2).alloc o3).alloc o4).alloc o5).alloc o6) t cs
 simpa using h
def vb0 (k:Nat):VB:=⟨k,k+1,k+1+1,k+1+1+1,k+1+1+1+1,k+1+1+1+1+1,k+1+1+1+1+1+1,0,0⟩
theorem VN.start (w:World) (cs ls:Nat→Int):VN w (((((((w.alloc (.cells #[.int .u8 (cs 0), .int .u8 (cs 1), .int .u8 (cs 2), .int .u8 (cs 3)] 22)).alloc (.cells #[.int .u16 (ls 0), .int .u16 (ls 1), .int .u16 (ls 2), .int .u16 (ls 3)] 24)).alloc (.cells (row4 fun _=>PQ.zero).toArray 46)).alloc (.cells (row4 fun _=>PQ.zero).toArray 46)).alloc (.cells (row4 fun _=>PQ.zero).toArray 46)).alloc (.cells (row4 fun _=>PQ.zero).toArray 46)).alloc (.cells #[.int .i64 20, .int .i64 200] 34)) (vb0 w.heap.size) cs ls (fun _=>PQ.zero) (fun _=>PQ.zero) (fun _=>PQ.zero) (fun _=>PQ.zero):=by
 unfold vb0
 exact ⟨Nat.le_refl _,Nat.lt_succ_self _,Nat.lt_succ_self _,Nat.lt_succ_self _,Nat.lt_succ_self _,Nat.lt_succ_self _,Nat.lt_succ_self _,((((((Blk.new w _ _).push _).push _).push _).push _).push _).push _,(((((Blk.new1 w _ _ _).push _).push _).push _).push _).push _,((((Blk.new2 w _ _ _ _).push _).push _).push _).push _,(((Blk.new3 w _ _ _ _ _).push _).push _).push _,((blk4 w _ _ _ _ _ _).push _).push _,(blk5 w _ _ _ _ _ _ _).push _,blk6 w _ _ _ _ _ _ _ _,fun _=>rfl,fun _=>rfl,((((((Bel.refl w).push _).push _).push _).push _).push _).push _ |>.push _⟩
theorem VN.ready {b:VB} {cs ls:Nat→Int} {fm fi fo fe:Nat→PQ} (h:VN w W b cs ls fm fi fo fe):VM w ((W.alloc (.cells (tick4 fun _=>TQ.zero).toArray 54)).alloc (.cells (tick4 fun _=>TQ.zero).toArray 54)) ⟨b.gC,b.gL,b.gm,b.gi,b.go,b.ge,b.gcf,W.heap.size,W.heap.size+1⟩ [] cs ls fm fi fo fe (fun _=>TQ.zero) (fun _=>TQ.zero):=by
 have A:=h.bg.lt
 refine ⟨⟨h.o0,h.o1,h.o2,h.o3,h.o4,h.o5,h.o6,A,Nat.lt_succ_self _⟩,(h.bC.push _).push _,(h.bL.push _).push _,(h.bm.push _).push _,(h.bi.push _).push _,(h.bo.push _).push _,(h.be.push _).push _,(Blk.new W _ _).push _,Blk.new1 W _ _ _,fun k _=>by rw [h.li k];exact QAv.nil,fun k _=>by rw [h.le k];exact QAv.nil,fun k _=>IntsAv.nil,fun k _=>IntsAv.nil,(h.bel.push _).push _,fun x hx=>by cases hx⟩
noncomputable def vm4x_code:Code:=((Tryz.f3.body.bind (fromReg 4)).getD .skip)
def duRow (d:Int×Int):List Value:=[.int .i64 d.1, .int .i64 d.2]
structure VL where
 p:PQ
 u:PQ
 now:Int
 done:Int
 sA:Option Addr
 sc:Nat
 ss:List TF
 dA:Option Addr
 dc:Nat
 ds:List (Int×Int)
 count:Int
 least:Int
 most:Int
 st:Int×Int
 ow:Int×Int
def VL.row (v:VL) (gc:Nat):List Value:=v.p.row++(v.u.row ++ [.pointer (some ⟨gc,0,none⟩), .int .i64 v.now, .int .i64 v.done, .slice v.sA v.ss.length v.sc, .slice v.dA v.ds.length v.dc, .slice none 0 0, .slice none 0 0, .int .i64 v.count, .int .i64 v.least, .int .i64 v.most, .int .i64 v.st.1, .int .i64 v.st.2, .int .i64 v.ow.1, .int .i64 v.ow.2, .bool false])
theorem zee {l:List (Int×Int)} {d:Int×Int} (h:RowsAt w n 2 duRow A l) (hd:l[i]? = some d):∃ b off,A=some ⟨b,off,none⟩∧b<n∧w.cell? ⟨b,off+i*2,none⟩=some (.int .i64 d.1)∧w.cell? ⟨b,off+i*2+1,none⟩=some (.int .i64 d.2):=by
 obtain ⟨b,off,e,hb,hc⟩:=h (by have:=(List.getElem?_eq_some_iff.1 hd).1;omega)
 exact ⟨b,off,e,hb,hc i d hd 0 _ rfl,hc i d hd 1 _ rfl⟩
theorem zds:(Tryz.prog.info? 135).map (fun i=>(i.zero,i.size,i.bytes))=some (some (.agg #[.int .i64 0, .int .i64 0]),2,16):=by kernel_rfl
theorem zpg (gW:Nat) (k:Int) (A:Option Addr) (c:Nat) (ds:List (Int×Int)) (W:World) (y:W.cell? ⟨gW,100,none⟩=some (.slice A ds.length c)) (B:RowsAt W W.heap.size 2 duRow A ds) (hl:ds.length≤1000):Calls Tryz.prog 118 #[.pointer (some ⟨gW,0,none⟩), .int .i64 k] W fun e w'=>e = .returned (.bool (ds.any fun d=>decide (d.2=k)))∧w'=W:=by
 obtain ⟨v,hv⟩:=nm9 (ds.any fun d=>decide (d.2=k))
 rw [← hv]
 have C:=Z9 hv
 have HR:=Z9 B
 clear hv B
 go_enter Tryz.func118,Tryz.ntmps118
 go_wp2_with fail
 go_loopw [5] (fun i wr => ∃ j:Nat,j≤ds.length∧i = .int .i64 j∧Hid (∀ m,m<j→∀ d,ds[m]? = some d→d.2≠k)∧wr=W) (fun i _=>ds.length-(intOf i).toNat)
 case atStart=>exact ⟨0,Nat.zero_le _,rfl,Z9 (fun m hm=>absurd hm (Nat.not_lt_zero m)),rfl⟩
 case round =>
  obtain ⟨j,I,rfl,D,rfl⟩:=hrel
  have J:(0:Int)≤(j:Int):=by omega
  by_cases hlt:j<ds.length
  · have K:(j:Int)<(ds.length:Int):=by omega
    obtain ⟨d,hd⟩:∃ d,ds[j]? = some d:=⟨_,List.getElem?_eq_getElem hlt⟩
    obtain ⟨b,off,rfl,hb,G,F⟩:=zee HR.out hd
    obtain ⟨d1,H⟩:=d
    simp only at G F
    have E:=Z9 hd
    clear hd
    by_cases hk:H=k
    · have e:v=true:=by rw [C.out,List.any_eq_true];exact ⟨_,List.mem_of_getElem? E.out,by simpa using hk⟩
      subst e hk
      go_wp2_with fail
      go_ret
      exact ⟨rfl,rfl⟩
    · go_wp2_with fail
      refine ⟨⟨j+1,by omega,by simp,Z9 (fun m hm d hd => ?_),trivial⟩,?_⟩
      · by_cases e:m=j
        · subst e;rw [E.out] at hd;injection hd with hd;subst hd;exact hk
        · exact D.out m (by omega) d hd
      · simp [intOf];omega
  · obtain rfl:j=ds.length:=by omega
    have hn:¬(ds.length:Int)<(ds.length:Int):=by omega
    have e:v=false:=by
     rw [C.out,List.any_eq_false]
     intro d hd
     obtain ⟨m,hm⟩:=List.getElem?_of_mem hd
     simpa using D.out m (List.getElem?_eq_some_iff.1 hm).1 d hm
    subst e
    go_wp2_with fail
    go_ret
    exact ⟨rfl,rfl⟩
def DuInsR (gW:Nat) (cs:Array Value) (ds:List (Int×Int)) (W:World) (e:Ending) (w':World):Prop:=∃ (A':Option Addr) (c':Nat),e = .returned (.bool true)∧ds.length≤c'∧Blk w' gW 86 (cs.setIfInBounds 100 (.slice A' ds.length c'))∧RowsNew W.heap.size w' 2 duRow A' ds∧Chg [gW] W w'
theorem zvw {d:TS} (h:Sds w n A [d]):∃ b off,A=some ⟨b,off,none⟩∧b<n∧w.cell? ⟨b,off,none⟩=some (.int .i64 d.s.at_)∧w.cell? ⟨b,off+1,none⟩=some (.slice d.S d.s.zs.length d.c):=by
 obtain ⟨b,off,e,hb,x0,x1,B⟩:=ztw (k:=0) h.1 (a:=d) rfl
 simp only [Nat.zero_mul,Nat.add_zero] at x0 x1 B
 exact ⟨b,off,e,hb,x0,x1⟩
def HdR (gW gc:Nat) (v:VL) (W:World) (e:Ending) (w':World):Prop:=∃ (A':Option Addr) (c':Nat),e = .returned (.tuple #[])∧Blk w' gW 86 (VL.row { v with dA:=A',dc:=c' } gc).toArray∧Chg [gW] W w'
theorem zph (gW gc k:Nat) (v:VL) (d:TS) (f:TF) (A:Option Addr) (c:Nat) (W:World) (hB:Blk W gW 86 (v.row gc).toArray) (hd:v.ds=[(d.s.at_,(k:Int))]) (Av:1≤v.dc) (N:RowsAv W [gW] 2 duRow v.dA v.ds) (O:Sds W W.heap.size A [d]) (u:∀ b off,A=some ⟨b,off,none⟩→b≠gW) (hz:d.s.zs.length=160) (m:IntsAv W [gW] .i16 d.S d.s.zs)
 (M:RowsAv W [gW] 1 TF.row v.sA v.ss) (hf:v.ss[k]? = some f) (R:f.zs=d.s.zs) (hF:IntsAv W [gW] .i16 f.A f.zs) (hn:d.s.at_≤v.now):Calls Tryz.prog 79 #[.pointer (some ⟨gW,0,none⟩), .slice A 1 c] W (HdR gW gc { v with done:=max v.done (k:Int),ds:=[] } W):=by
 have a:=hB.at 97 (.int .i64 v.now) rfl
 have h:=hB.at 98 (.int .i64 v.done) rfl
 have T:=hB.at 99 (.slice v.sA v.ss.length v.sc) rfl
 have Y:=hB.at 100 (.slice v.dA v.ds.length v.dc) rfl
 have Bi:=hB.at 110 (.bool false) rfl
 have Ax:=hB.lt
 have bB:k<v.ss.length:=(List.getElem?_eq_some_iff.1 hf).1
 obtain ⟨bd,G,H,Ru,x0,x1⟩:=zee (i:=0) (d:=(d.s.at_,(k:Int))) N.1 (by rw [hd];rfl)
 simp only [Nat.zero_mul,Nat.add_zero] at x0 x1
 have pK:bd≠gW:=fun e=>N.2 (by rw [hd];simp) bd G H (by simp [e])
 obtain ⟨bs,os,K,Df,t⟩:=M.1 (by omega)
 have z0:=t k f hf 0 _ rfl
 have u6:bs≠gW:=fun e=>M.2 (by omega) bs os K (by simp [e])
 obtain ⟨o,g,X,B5,s0,s1⟩:=zvw O
 have u9:=u o g X
 have s2:W.cell? ⟨o,g+2,none⟩=some (.slice none 0 0):=by
  obtain ⟨b',o',I,_,hc⟩:=O.1 (by simp)
  rw [X] at I;injection I with I;injection I with e1 e2
  subst e1 e2
  have:=hc 0 d rfl 2 _ rfl
  simpa using this
 rw [hz] at s1
 rw [R,hz] at z0
 simp only [Nat.mul_one,Nat.add_zero] at z0
 rw [hd,H] at Y
 rw [K] at T
 have Jq:¬v.now<d.s.at_:=by omega
 have Pb:decide (v.now<d.s.at_)=false:=decide_eq_false Jq
 have Eu:(0:Int)≤(k:Int):=by omega
 have Ug:(k:Int)<(v.ss.length:Int):=by omega
 have j:=Z9 fun (V:World) (B:Below W.heap.size W V)=>zgm f.A d.S d.s.zs 160 f.c d.c hz V (by rw [← R];exact (hF.1.keep (fun _ hp=>B.cell hp)).more B.size) ((m.1.keep (fun _ hp=>B.cell hp)).more B.size) (by omega)
 have HB:=Z9 hB
 have y:=Z9 H
 obtain ⟨tA,w⟩:=nm9 d.s.at_
 rw [← w] at x0 s0 Jq Pb
 have z:=Z9 hd
 subst X
 clear hB N O m M hF hf R hd H K t hn w u
 go_enter Tryz.func79,Tryz.ntmps79
 go_wp2_with fail
 go_loopw [4] (fun i wr=>(i = .int .i64 0∧wr=W)∨(i = .int .i64 1∧Hid (∃ A' c',Blk wr gW 86 (VL.row { v with done:=max v.done (k:Int),dA:=A',dc:=c',ds:=[] } gc).toArray∧Chg [gW] W wr))) (fun i _=>2-(intOf i).toNat)
 case atStart=>exact .inl ⟨rfl,rfl⟩
 case round =>
  rcases hrel with ⟨rfl,rfl⟩|⟨rfl,HE⟩
  rotate_left
  · obtain ⟨A',c',hb,hc⟩:=HE.out
    have P:=hb.at 100 (.slice A' 0 c') rfl
    have x:=hb.at 110 (.bool false) rfl
    have n:=hb.frozen 110
    have Ub:=hb.lt
    have HQ:=Z9 hb
    have HC:=Z9 hc
    clear hb hc HE a h T Y Bi x0 x1 z0 s0 s1 s2
    go_wp2_with fail
    go_region
    go_wp2_with fail
    go_end0
    exact ⟨A',c',rfl,HQ.out.drew.set_ 110 _,HC.out.trans (Chg.trans (Chg.drew (Chg.refl _ _)) (Chg.of_only (OnlyB.setCell _ _ _ _) (by simp)))⟩
  go_wp2_with fail
  go_region
  go_wp2_with fail
  go_region
  go_wp2_with fail
  have U:Below wr.heap.size wr (World.drew (World.drew wr)):=Below.drew (Below.drew (Below.refl wr.heap.size wr))
  have l:=j.out _ U
  refine Calls.mono l ?_
  rintro e w3 ⟨rfl,Aq⟩
  have hb:Below wr.heap.size wr w3:=U.trans Aq
  have C:=HB.out.later hb
  have LP:=C.at 98 (.int .i64 v.done) rfl
  have P:=C.at 100 (.slice v.dA v.ds.length v.dc) rfl
  have x:=C.at 110 (.bool false) rfl
  have n:=C.frozen 110
  have Zs:=C.lt
  have Z:=(hb.cell (p:=⟨bd,G+1,none⟩) Ru).trans x1
  have HU:=Z9 hb
  have Co:=Z9 C
  have vC:=Z9 LP
  have HQ0:=Z9 P
  have Pv:=Z9 Z
  clear Aq hb U l C a h T Y Bi x0 x1 z0 s0 s1 s2 LP P Z j
  go_upto_region 9 with fail
  obtain ⟨V1,B⟩:=nm9 (w3.setCell ⟨gW,110,none⟩ (.bool false))
  have L:OnlyB gW (w3) V1:=by rw [B];exact OnlyB.setCell _ _ _ _
  have D:Blk V1 gW 86 (VL.row v gc).toArray:=by rw [B];exact Co.out.set_ 110 _
  rw [← B]
  clear B
  have wP:=D.at 98 (.int .i64 v.done) rfl
  have E:=D.at 100 (.slice v.dA v.ds.length v.dc) rfl
  rw [z.out,y.out] at E
  have fr:=D.frozen 98
  have Zr:=D.lt
  have u2:V1.cell? ⟨bd,G+1,none⟩=some (.int .i64 (k:Int)):=(L.cell (p:=⟨bd,G+1,none⟩) pK).trans Pv.out
  have Aw:=Z9 D
  have cB:=Z9 L
  clear D L x n
  go_upto_region 9 with fail
  go_region
  go_upto_region 10 with fail
  obtain ⟨V2,J⟩:=nm9 (World.drew (V1.setCell ⟨gW,98,none⟩ (.int .i64 (max v.done (k:Int)))))
  have F:Blk V2 gW 86 (VL.row { v with done:=max v.done (k:Int) } gc).toArray:=by rw [J];exact (Aw.out.set_ 98 _).drew
  have C2:Chg [gW] wr V2:=by
   rw [J]
   exact Chg.drew ((Chg.of_below HU.out).trans ((Chg.of_only cB.out (by simp)).trans (Chg.of_only (OnlyB.setCell _ _ _ _) (by simp))))
  rw [← J]
  clear J wP E fr u2
  have E:=F.at 100 (.slice v.dA v.ds.length v.dc) rfl
  rw [z.out,y.out] at E
  have fr:=F.frozen 100
  have i8:=F.lt
  have Bs:=Z9 F
  have Q:=Z9 C2
  clear F C2
  have Cy:(1:Int)≤(v.dc:Int):=by omega
  by_cases De:v.dc=1
  · rw [De] at E
    go_wp2_with fail
    exact ⟨.inr ⟨rfl,Z9 ⟨_,_,Bs.out.set_ 100 (.slice _ 0 _),Q.out.trans (Chg.of_only (OnlyB.setCell _ _ _ _) (by simp))⟩⟩,by simp [intOf]⟩
  · have Iz:¬(v.dc:Int)=1:=by omega
    go_wp2_with fail
    exact ⟨.inr ⟨rfl,Z9 ⟨_,_,Bs.out.set_ 100 (.slice _ 0 _),Q.out.trans (Chg.of_only (OnlyB.setCell _ _ _ _) (by simp))⟩⟩,by simp [intOf]⟩
theorem zgi (gW gc:Nat) (v:VL) (now:Int) (W:World) (hB:Blk W gW 86 (v.row gc).toArray) (hw:v.u.p.wf) (hq:v.u.l.map TW.w=v.u.p.jt.q) (hn:v.u.l.length=v.u.n) (hl:v.u.n≤1000) (Av:v.u.n≤v.u.c) (Q:v.u.c≤maxLen) (d:QAv W [gW] v.u.A v.u.l) (Z:∀ a∈v.u.l,I64 a.w.m.sq) (hc:Sb.chkT v.u.p now=0) (Y:∀ a∈v.u.p.jt.q,OkW a) {R:World→Prop}
 (h:∀ (V:World) (A':Option Addr) (n' c':Nat) (l':List TW) (SA:Option Addr) (sc:Nat) (ls:List TS),l'.map TW.w=(Sb.run v.u.p now).1.jt.q→l'.length=n'→n'≤c'→c'≤maxLen→(∀ S:List Nat,(∀ x∈S,x<W.heap.size)→QAv V S A' l'∧SdAv V S SA ls)→ls.map TS.s=(Sb.run v.u.p now).2→Blk V gW 86 (VL.row { v with now:=now,u:=⟨(Sb.run v.u.p now).1,A',n',c',l'⟩ } gc).toArray→Chg [gW] W V→Calls Tryz.prog 79 #[.pointer (some ⟨gW,0,none⟩), .slice SA ls.length sc] V fun e w'=>e = .returned (.tuple #[])∧R w') :
 Calls Tryz.prog 36 #[.pointer (some ⟨gW,0,none⟩), .int .i64 now] W fun e w'=>e = .returned (.tuple #[])∧R w':=by
 have Pm:=hB.at 97 (.int .i64 v.now) rfl
 have kV:=hB.frozen 97
 have Ax:=hB.lt
 have D:=Z9 fun (V:World) B=>zvr v.u.p hw v.u.A v.u.l v.u.n v.u.c (PA v.u.p v.u.A v.u.n v.u.c) rfl V hq hn (by omega) Av Q B Z now hc Y
 unfold PlayV at D
 have y:=Z9 hB
 have z:=Z9 d
 replace h:=Z9 h
 clear hB d hq hn hl Av Q Z hc Y hw
 generalize Sb.run v.u.p now=RR at D h
 obtain ⟨u',sds⟩:=RR
 go_enter Tryz.func36,Tryz.ntmps36
 go_upto_region 1 with fail
 obtain ⟨V0,B⟩:=nm9 (W.setCell ⟨gW,97,none⟩ (.int .i64 now))
 have I:OnlyB gW (W) V0:=by rw [B];exact OnlyB.setCell _ _ _ _
 have H:Blk V0 gW 86 (VL.row { v with now:=now } gc).toArray:=by rw [B];exact y.out.set_ 97 _
 rw [← B]
 clear B
 have O:Chg [gW] W V0:=Chg.of_only I (by simp)
 have U:=z.out.chg O (by simp)
 have X:=I.2
 have f:=Z9 X
 have GL:=Z9 O
 have i9:=H.lt
 clear X O I Pm kV
 go_wp2_with (first|(refine zaf rfl 45 (.tmp 14) rfl gW 48 rfl 86 (VL.row { v with now:=now } gc) H 48 _ Tryz.underlying45 zai (show 48+48≤111 by decide) (PA v.u.p v.u.A v.u.n v.u.c) rfl rfl ?_)|fail)
 refine (D.out _ U.wts).mono ?_
 rintro e w2 ⟨A',n',c',l',SA,sc,m,ls,base,rfl,Bg,o,Cy,Iz,i,t,Df,M,T⟩
 obtain rfl:m=ls.length:=M.len.symm
 have HS:Hid (∀ S:List Nat,(∀ x∈S,x<W.heap.size)→QAv w2 S A' l'∧SdAv w2 S SA ls):=Z9 fun S E=>⟨QAv.of_win i (fun x hx=>by have:=E x hx;have:=f.out;omega),SdAv.of_own M (fun x hx=>by have:=E x hx;have:=f.out;omega)⟩
 have G:=H.later T
 have Bi:=G.at 110 (.bool false) rfl
 have oU:=G.lt
 have Bs:=Z9 G
 have Jm:=Z9 T
 have aJ:=Z9 Bg
 have aI:=Z9 o
 have FU:=Z9 t
 clear i M Df G T H U D z y Bg o t
 have BZ:Blk (w2.alloc (Obj.cells (PA Sb.Pt.zero none 0 0) 45)) w2.heap.size 45 (PL Sb.Pt.zero none 0 0).toArray:=Blk.new _ _ _
 go_upto_region 2 with (first|(refine zag rfl 45 (.tmp 4) (.tmp 18) rfl (w2.heap.size) 0 rfl 45 (PL Sb.Pt.zero none 0 0) BZ (PL u' A' n' c') rfl zai (show 0+48≤48 by decide) rfl (PL u' A' n' c') rfl ?_;intro WB F j)|fail)
 have L:Below w2.heap.size w2 WB:=j.below ((Below.refl _ w2).alloc (Nat.le_refl _) _) (by simp) (Nat.le_refl _)
 obtain ⟨g4,g⟩:=nm9 w2.heap.size
 rw [← g] at F ⊢
 have nU:gW≠g4:=by omega
 have C:=Bs.out.later L
 have Yw:=C.at 110 (.bool false) rfl
 have Ob:=C.frozen 110
 have Zs:=C.lt
 have P8:=Z9 L
 have Sh:=Z9 C
 have F:=Z9 F
 clear L j BZ g Bi C
 go_upto_region 3 with fail
 obtain ⟨V3,B⟩:=nm9 (WB.setCell ⟨gW,110,none⟩ (.bool false))
 have J:OnlyB gW (WB) V3:=by rw [B];exact OnlyB.setCell _ _ _ _
 have B9:Blk V3 gW 86 (VL.row { v with now:=now } gc).toArray:=by rw [B];exact Sh.out.set_ 110 _
 rw [← B]
 clear B
 have P:=J.blk F.out nU.symm
 have C3:Chg [gW] w2 V3:=(Chg.of_below P8.out).trans (Chg.of_only J (by simp))
 have vN:=Z9 C3
 clear Yw Ob C3 J
 go_wp2_with (first|(refine zaf rfl 45 (.tmp 4) rfl g4 0 rfl 45 (PL u' A' n' c') P 48 _ Tryz.underlying45 zai (show 0+48≤48 by decide) (PA u' A' n' c') rfl rfl ?_)|(refine zag rfl 45 (.tmp 35) (.tmp 33) rfl gW 48 rfl 86 (VL.row { v with now:=now } gc) B9 (PL u' A' n' c') rfl zai (show 48+48≤111 by decide) rfl (VL.row { v with now:=now,u:=⟨u',A',n',c',l'⟩ } gc) rfl ?_;intro WF BF OF)|fail)
 have N:Chg [gW] w2 WF:=vN.out.trans (Chg.of_only OF (by simp))
 have pH:=h.out WF A' n' c' l' SA sc ls aJ.out aI.out Cy Iz (fun S E=>by
  have Rw:∀ x∈gW::S,x<W.heap.size:=fun x hx=>(List.mem_cons.1 hx).elim (fun e=>e ▸ Ax) (E x)
  obtain ⟨q1,q2⟩:=HS.out (gW::S) Rw
  have q3:=q1.chg N (by simp)
  have K:=q2.chg N (by simp)
  exact ⟨q3.sub (fun x hx=>List.mem_cons_of_mem _ hx),⟨⟨K.1.1,fun h0 b off e hx=>K.1.2 h0 b off e (List.mem_cons_of_mem _ hx)⟩,fun a ha=>(K.2 a ha).sub (fun x hx=>List.mem_cons_of_mem _ hx)⟩⟩) FU.out BF ((GL.out.trans (Chg.of_below Jm.out)).trans N)
 refine pH.mono ?_
 rintro e w9 ⟨rfl,hR⟩
 go_wp2_with fail
 go_end0
 exact ⟨rfl,hR⟩
noncomputable def ar1_code:Code:=((Tryz.f78.body.bind (findRegS 1)).getD .skip)
theorem zxn {Q:Exit→Act→World→Prop} (gW gc gX:Nat) (v:VL) (x:Rx) (R:Sb.Pt×Int×List Sb.Sd) (W:World) (hB:Blk W gW 86 (v.row gc).toArray) (Bj:W.cell? ⟨gW,97,none⟩=some (.int .i64 v.now)) (x0:W.cell? ⟨gX,0,none⟩=some (.bool x.mrk)) (x1:W.cell? ⟨gX,1,none⟩=some (.int .u8 x.ty)) (x2:W.cell? ⟨gX,2,none⟩=some (.int .u16 x.sq)) (x3:W.cell? ⟨gX,3,none⟩=some (.int .u32 x.ti)) (x4:W.cell? ⟨gX,4,none⟩=some (.int .u32 x.src)) (x5:W.cell? ⟨gX,5,none⟩=some (.slice x.CA x.cn x.cc)) (x6:W.cell? ⟨gX,6,none⟩=some (.bool x.ex)) (x7:W.cell? ⟨gX,7,none⟩=some (.int .u16 x.pr)) (x8:W.cell? ⟨gX,8,none⟩=some (.slice x.EA x.en x.ec)) (x9:W.cell? ⟨gX,9,none⟩=some (.slice x.B x.pl.length x.pc)) (Uy:W.cell? ⟨gX,10,none⟩=some (.int .i64 x.pad)) (P:∀ V:World,Below W.heap.size W V→Calls Tryz.prog 26 #[.agg (PA v.u.p v.u.A v.u.n v.u.c), .int .i64 v.now, .agg x.row] V (RecvR R V)) (G:∀ (ch:_) (a:Act) (d:Tmp) (u:Value) (w:World),Q (.panic ch) (a.put (some d) u) w→Q (.panic ch) a w)
 (h:∀ (H:World) (g3:Nat) (SA:Option Addr) (sc m:Nat) (A':Option Addr) (n' c':Nat) (l':List TW) (ls:List TS) (LO LN LL LK LJ LI LH LG LF LE LD lX lW Z lV:Value),Hid (PB H g3 R.1 A' n' c')→Hid (l'.map TW.w=R.1.jt.q)→l'.length=n'→n'≤c'→c'≤maxLen→Hid (WtsIn H W.heap.size H.heap.size A' l')→Hid (ls.map TS.s=R.2.2)→ls.length=m→Hid (SdIn H W.heap.size H.heap.size SA ls)→W.heap.size≤g3→Hid (Below W.heap.size W H)→Q .normal ⟨#[.pointer (some ⟨gW,0,none⟩),s1,s2,s3, .pointer (some ⟨gX,0,none⟩),s5,s6, .pointer (some ⟨g3,0,none⟩), .int .u8 R.2.1, .slice SA m sc, .int .u8 0,Nv,Hz,Iq,Ox,Kc,Kb,Na,Jo,LO,LN,LL,LK,LJ,LI,LH,LG,LF,LE,LD,lX,lW,Z,lV,Mn,Mm,Ml,Mk,Mj,Mi,Ka,Jz,Jy,Mh,Mg,Mf,Me,Mc,Mb,Ma,Lz,Ly,Lx,Lw,Jg,Nn,Lv,Lu,Nm,Nl,Nk,Nj,Ni,Lt,Ls,Lr,Lq,Lp,Jn,Lo,Ln,Lm,Ll,Lk,Lj,Li,Lh,Lg,Lf,Le,Ld,Lc,Lb,La,Kz,Ky,Kx,Kw,Kv,Ku,Kt,Ks,Kr,Kq,Jf,Jx,Jw,Je,Jv,Ju,Ci,Ch,Cg,Cf,Ce,Cq,Dm,Dl,Dk,Dj,Di,Dh,Er,Eq,Ep,Eo,En,Em,El,Ek,Ej,Ei,Eh,Eg,Ef,Ee,Ed,Ec,Eb,Ea,Dz,Dy,Dx,Dw,Dv,Du,Dt,Ds,Dr,Io,In,Il,Ik,Ij,Ii,Ih,Ht,Hs,Hr,Hq,Hp,Ho,Hn,Hl,Hk,Hj,Hi,Hh,Hg,Hf,He,Hd,Hc,Hb,Ha,Gz,Gy,Gx,Gw,Gv,Gu,Gt,Gs,Gr,Gq,Gp,Gn,Gm,Gl,Gk,Gj,Gi,Gh,Gg,Gf,Ge,Gd,Gc,Gb,Ga,Fz,Fy,Fx,Fw,Fv,Fu,Fs,Fq,Wc,Wb,Wa,Vz,Vy,Vx,Vw,Vv,Vu,Vt,Vs,Vr,Vq,Vp,Vo,Vn,Vm,Vl,Vk,Vj,Vi,Vh,Vg,Vf,Ve,Vd,Vc],[]⟩ H):ar1_code.wp Tryz.prog Q ⟨#[.pointer (some ⟨gW,0,none⟩),s1,s2,s3, .pointer (some ⟨gX,0,none⟩),s5,s6,s7,s8,s9,Jh,Nv,Hz,Iq,Ox,Kc,Kb,Na,Jo,Nu,Mz,My,Mw,Mu,Mt,Ms,Mr,Mq,Mp,Mo,Ns,Nr,Nq,Np,Mn,Mm,Ml,Mk,Mj,Mi,Ka,Jz,Jy,Mh,Mg,Mf,Me,Mc,Mb,Ma,Lz,Ly,Lx,Lw,Jg,Nn,Lv,Lu,Nm,Nl,Nk,Nj,Ni,Lt,Ls,Lr,Lq,Lp,Jn,Lo,Ln,Lm,Ll,Lk,Lj,Li,Lh,Lg,Lf,Le,Ld,Lc,Lb,La,Kz,Ky,Kx,Kw,Kv,Ku,Kt,Ks,Kr,Kq,Jf,Jx,Jw,Je,Jv,Ju,Ci,Ch,Cg,Cf,Ce,Cq,Dm,Dl,Dk,Dj,Di,Dh,Er,Eq,Ep,Eo,En,Em,El,Ek,Ej,Ei,Eh,Eg,Ef,Ee,Ed,Ec,Eb,Ea,Dz,Dy,Dx,Dw,Dv,Du,Dt,Ds,Dr,Io,In,Il,Ik,Ij,Ii,Ih,Ht,Hs,Hr,Hq,Hp,Ho,Hn,Hl,Hk,Hj,Hi,Hh,Hg,Hf,He,Hd,Hc,Hb,Ha,Gz,Gy,Gx,Gw,Gv,Gu,Gt,Gs,Gr,Gq,Gp,Gn,Gm,Gl,Gk,Gj,Gi,Gh,Gg,Gf,Ge,Gd,Gc,Gb,Ga,Fz,Fy,Fx,Fw,Fv,Fu,Fs,Fq,Wc,Wb,Wa,Vz,Vy,Vx,Vw,Vv,Vu,Vt,Vs,Vr,Vq,Vp,Vo,Vn,Vm,Vl,Vk,Vj,Vi,Vh,Vg,Vf,Ve,Vd,Vc],[]⟩ W:=by
 have HB:=Z9 hB
 unfold Rx.row at P
 replace P:=Z9 P
 clear hB
 have hq:=Z9 h
 clear h
 conv=>arg 2;whnf
 refine wp_region_held_drew (S:=fun w'=>Below W.heap.size W w') (by kernel_rfl) (Below.drew (Below.refl _ _)) (fun C => ?_)
 obtain ⟨X,J⟩:=nm9 W.drew
 rw [← J] at C ⊢
 clear J
 iterate 3
  refine tkM 20 (v:=?_) rfl rfl ?_ C ?_ (q9 G)
  rotate_left
  · (intro w D;clear D;go_simp;try with_reducible rfl)
  try simp only [ss9]
 refine tk1 (i:=3) (v := .agg (PA v.u.p v.u.A v.u.n v.u.c)) rfl (zaw rfl 45 (.tmp 22) rfl gW 48 rfl 86 (v.row gc) (fun w h=>HB.out.later h) 48 _ Tryz.underlying45 zai (show 48+48≤111 by decide) _ rfl rfl) C ?_ (hQ:=q9 G)
 try simp only [ss9]
 iterate 5
  refine tkM 20 (v:=?_) rfl rfl ?_ C ?_ (q9 G)
  rotate_left
  · (intro w D;have Tc:=zae D Bj;have Uq:=zae D x0;have Xs:=zae D x1;have bT:=zae D x2;have ED:=zae D x3;have RE:=zae D x4;have N4:=zae D x5;have N3:=zae D x6;have N2:=zae D x7;have N1:=zae D x8;have EI:=zae D x9;have qM:=zae D Uy;clear D;go_simp;try with_reducible rfl)
  try simp only [ss9]
 all_goals try
  fail_if_success (have hx:=E)
  refine rd2 9 15 (by kernel_rfl) rfl rfl (fun K F=>?_) fun K F=>?_
  rotate_left
  go_simp
  have E:Hid (Blk (X.alloc (Obj.cells #[.int .u8 0, .int .u32 0, .int .u16 0, .int .u32 0, .bool false, .int .i64 0, .int .i64 0, .int .i64 0, .bool false, .int .u8 0, .int .u8 0, .int .u32 0, .int .i64 0, .int .i64 0, .int .i64 0, .int .i64 0, .int .i64 0, .bool false, .int .i64 0, .int .i64 0, .int .i64 0, .int .i64 0, .int .i64 0, .int .i64 0, .slice none 0 0, .int .i64 0, .int .i64 0, .int .i64 0, .bool false, .int .i64 0, .int .i64 0, .int .i64 0, .bool false, .int .i64 0, .int .i64 0, .int .i64 0, .int .i64 0, .int .i64 0, .int .i64 0, .int .i64 0, .bool false, .int .u32 0, .int .u8 0, .int .i64 0, .bool false, .int .u32 0, .int .u32 0, .int .u32 0] 45)) X.heap.size 45 (PL Sb.Pt.zero none 0 0).toArray):=Z9 (Blk.new _ _ _)
  have O:W.heap.size≤X.heap.size:=C.size
  obtain ⟨g8,I⟩:=nm9 X.heap.size
  refine F.out _ _ ?_ (fun C => ?_)
  · exact zaj C _
  clear F K
  try simp only [ss9]
  rw [← I] at E O ⊢
  have M:=Z9 I
  clear I
  obtain ⟨Y,L⟩:=nm9 (X.alloc (Obj.cells #[.int .u8 0, .int .u32 0, .int .u16 0, .int .u32 0, .bool false, .int .i64 0, .int .i64 0, .int .i64 0, .bool false, .int .u8 0, .int .u8 0, .int .u32 0, .int .i64 0, .int .i64 0, .int .i64 0, .int .i64 0, .int .i64 0, .bool false, .int .i64 0, .int .i64 0, .int .i64 0, .int .i64 0, .int .i64 0, .int .i64 0, .slice none 0 0, .int .i64 0, .int .i64 0, .int .i64 0, .bool false, .int .i64 0, .int .i64 0, .int .i64 0, .bool false, .int .i64 0, .int .i64 0, .int .i64 0, .int .i64 0, .int .i64 0, .int .i64 0, .int .i64 0, .bool false, .int .u32 0, .int .u8 0, .int .i64 0, .bool false, .int .u32 0, .int .u32 0, .int .u32 0] 45))
  rw [← L] at E C ⊢
  clear L
  obtain ⟨X,J⟩:=nm9 Y
  subst J
 all_goals try
  refine rd1 9 (by kernel_rfl) rfl fun K F=>?_
 all_goals
  go_simp
  try have j:=Z9 E.out.lt
  have y:=C.size
  refine (P.out _ C).mono ?_
  rintro e X ⟨A',n',c',l',SA,sc,m,ls,base,rfl,z,hn,Cy,Iz,g,l,t,b,f⟩
  have U:=Z9 g
  have oC:=b.len
  have T:=Z9 (b.in_.less t)
  have Us:=Z9 z
  have Xv:=Z9 l
  clear z g l b t
  try replace E:=Z9 (E.out.later f)
  refine F.out _ _ ?_ (fun C => ?_)
  · exact zak f C
  clear F K f
  try simp only [ss9]
 all_goals
  refine tkB 10 rfl C ?_ (q9 G)
  try simp only [ss9]
  refine tkB 11 rfl C ?_ (q9 G)
  try simp only [ss9]
  refine tkB 12 rfl C ?_ (q9 G)
  try simp only [ss9]
  refine tkB 13 rfl C ?_ (q9 G)
  try simp only [ss9]
  refine tkB 14 rfl C ?_ (q9 G)
  try simp only [ss9]
 all_goals try
  fail_if_success (have hx:=E)
  refine rd1 15 (by kernel_rfl) rfl fun K F=>?_
  go_simp
  have E:Hid (Blk (X.alloc (Obj.cells #[.int .u8 0, .int .u32 0, .int .u16 0, .int .u32 0, .bool false, .int .i64 0, .int .i64 0, .int .i64 0, .bool false, .int .u8 0, .int .u8 0, .int .u32 0, .int .i64 0, .int .i64 0, .int .i64 0, .int .i64 0, .int .i64 0, .bool false, .int .i64 0, .int .i64 0, .int .i64 0, .int .i64 0, .int .i64 0, .int .i64 0, .slice none 0 0, .int .i64 0, .int .i64 0, .int .i64 0, .bool false, .int .i64 0, .int .i64 0, .int .i64 0, .bool false, .int .i64 0, .int .i64 0, .int .i64 0, .int .i64 0, .int .i64 0, .int .i64 0, .int .i64 0, .bool false, .int .u32 0, .int .u8 0, .int .i64 0, .bool false, .int .u32 0, .int .u32 0, .int .u32 0] 45)) X.heap.size 45 (PL Sb.Pt.zero none 0 0).toArray):=Z9 (Blk.new _ _ _)
  have O:W.heap.size≤X.heap.size:=C.size
  obtain ⟨g8,I⟩:=nm9 X.heap.size
  replace U:=Z9 (U.out.below ((Below.refl _ _).alloc (Nat.le_refl _) (Obj.cells #[.int .u8 0, .int .u32 0, .int .u16 0, .int .u32 0, .bool false, .int .i64 0, .int .i64 0, .int .i64 0, .bool false, .int .u8 0, .int .u8 0, .int .u32 0, .int .i64 0, .int .i64 0, .int .i64 0, .int .i64 0, .int .i64 0, .bool false, .int .i64 0, .int .i64 0, .int .i64 0, .int .i64 0, .int .i64 0, .int .i64 0, .slice none 0 0, .int .i64 0, .int .i64 0, .int .i64 0, .bool false, .int .i64 0, .int .i64 0, .int .i64 0, .bool false, .int .i64 0, .int .i64 0, .int .i64 0, .int .i64 0, .int .i64 0, .int .i64 0, .int .i64 0, .bool false, .int .u32 0, .int .u8 0, .int .i64 0, .bool false, .int .u32 0, .int .u32 0, .int .u32 0] 45)) (Nat.le_refl _))
  replace T:=Z9 (T.out.below ((Below.refl _ _).alloc (Nat.le_refl _) (Obj.cells #[.int .u8 0, .int .u32 0, .int .u16 0, .int .u32 0, .bool false, .int .i64 0, .int .i64 0, .int .i64 0, .bool false, .int .u8 0, .int .u8 0, .int .u32 0, .int .i64 0, .int .i64 0, .int .i64 0, .int .i64 0, .int .i64 0, .bool false, .int .i64 0, .int .i64 0, .int .i64 0, .int .i64 0, .int .i64 0, .int .i64 0, .slice none 0 0, .int .i64 0, .int .i64 0, .int .i64 0, .bool false, .int .i64 0, .int .i64 0, .int .i64 0, .bool false, .int .i64 0, .int .i64 0, .int .i64 0, .int .i64 0, .int .i64 0, .int .i64 0, .int .i64 0, .bool false, .int .u32 0, .int .u8 0, .int .i64 0, .bool false, .int .u32 0, .int .u32 0, .int .u32 0] 45)) (Nat.le_refl _))
  refine F.out _ _ ?_ (fun C => ?_)
  · exact zaj C _
  clear F K
  try simp only [ss9]
  rw [← I] at E O ⊢
  have M:=Z9 I
  clear I
  obtain ⟨Y,L⟩:=nm9 (X.alloc (Obj.cells #[.int .u8 0, .int .u32 0, .int .u16 0, .int .u32 0, .bool false, .int .i64 0, .int .i64 0, .int .i64 0, .bool false, .int .u8 0, .int .u8 0, .int .u32 0, .int .i64 0, .int .i64 0, .int .i64 0, .int .i64 0, .int .i64 0, .bool false, .int .i64 0, .int .i64 0, .int .i64 0, .int .i64 0, .int .i64 0, .int .i64 0, .slice none 0 0, .int .i64 0, .int .i64 0, .int .i64 0, .bool false, .int .i64 0, .int .i64 0, .int .i64 0, .bool false, .int .i64 0, .int .i64 0, .int .i64 0, .int .i64 0, .int .i64 0, .int .i64 0, .int .i64 0, .bool false, .int .u32 0, .int .u8 0, .int .i64 0, .bool false, .int .u32 0, .int .u32 0, .int .u32 0] 45))
  rw [← L] at E C U T ⊢
  clear L
  obtain ⟨X,J⟩:=nm9 Y
  subst J
 all_goals
  refine rd1 16 (by kernel_rfl) rfl fun K F=>?_
  refine zam rfl 45 (.tmp 7) (.tmp 30) rfl g8 0 rfl 45 _ E.out (PL R.1 A' n' c') rfl zai (Nat.le_refl 48) rfl (PL R.1 A' n' c') rfl ?_
  intro WF BF N
  have o:=N.bel (show Bel W X from C) O
  refine F.out _ _ o (fun C => ?_)
  clear F K
  try simp only [ss9]
  refine tkB 17 rfl C ?_ (q9 G)
  try simp only [ss9]
  refine tkB 18 rfl C ?_ (q9 G)
  try simp only [ss9]
  refine tkB 19 rfl C ?_ (q9 G)
  try simp only [ss9]
  refine wpAnyH_done (by kernel_rfl) ?_ _
  exact hq.out WF g8 SA sc m A' n' c' l' ls _ _ _ _ _ _ _ _ _ _ _ _ _ _ _ (Z9 BF) Us hn Cy Iz (Z9 (((U.out.onlyN N (by first|exact Or.inl j.out|exact Or.inr (by rw [M.out];exact Nat.le_refl _))).more (by rw [N.2];first|exact Nat.le_refl _|(have h1:=E.out.lt;have h2:=M.out;omega))).less y)) Xv oC (Z9 (((T.out.onlyN N (by first|exact Or.inl j.out|exact Or.inr (by rw [M.out];exact Nat.le_refl _))).more (by rw [N.2];first|exact Nat.le_refl _|(have h1:=E.out.lt;have h2:=M.out;omega))).less y)) O (Z9 o)
theorem zpi (s:Jb.Jt) (A:Option Addr) (l:List TW) (n c:Nat) (t:Int) (w:World) (L:s.ok) (hq:l.map TW.w=s.q) (hn:l.length=n) (hl:n≤100000) (H:Wts w w.heap.size A l) (G:∀ a∈l,I64 a.w.m.sq) (t0:0≤t) (t1:t≤4294967295):Calls Tryz.prog 116 #[.agg #[.int .i64 s.least, .int .i64 s.most, .int .i64 s.now, .bool s.on, .int .i64 s.zero, .int .i64 s.first, .int .i64 s.high, .int .i64 s.done, .int .i64 s.spread, .int .i64 s.trans, .slice A n c, .int .i64 s.late, .int .i64 s.twice, .int .i64 s.played], .int .i64 t] w fun e w'=>e = .returned (.int .i64 (Jb.ptime s t))∧Below w.heap.size w w':=by
 have k1:=Z9 fun (W:World) (F:Below w.heap.size w W)=>zkp s A l n c W hq hn hl ((H.keep (fun _ hp=>F.cell hp)).more F.size) G true (by unfold Jb.valid;exact (decide_eq_true L).symm)
 obtain ⟨⟨_,⟨z0,z1⟩,_,⟨f0,f1⟩,_⟩,_⟩:=L
 have E:=Z9 fun (W:World)=>zeb s.least s.most s.now s.on s.zero s.first s.high s.done s.spread s.trans A n c s.late s.twice s.played t W z0 z1 f0 f1 (by omega) (by omega)
 have hB:=Blk.new w 37 #[.int .i64 s.least, .int .i64 s.most, .int .i64 s.now, .bool s.on, .int .i64 s.zero, .int .i64 s.first, .int .i64 s.high, .int .i64 s.done, .int .i64 s.spread, .int .i64 s.trans, .slice A n c, .int .i64 s.late, .int .i64 s.twice, .int .i64 s.played]
 have J:Below w.heap.size w (w.alloc (.cells #[.int .i64 s.least, .int .i64 s.most, .int .i64 s.now, .bool s.on, .int .i64 s.zero, .int .i64 s.first, .int .i64 s.high, .int .i64 s.done, .int .i64 s.spread, .int .i64 s.trans, .slice A n c, .int .i64 s.late, .int .i64 s.twice, .int .i64 s.played] 37)):=(Below.refl _ _).alloc (Nat.le_refl _) _
 have c1:¬t < -281474976710656:=by omega
 have c2:¬t > 281474976710656:=by omega
 have O:=Z9 hB
 have C:=Z9 J
 obtain ⟨r,hr⟩:=nm9 (Jb.ptime s t)
 have I:s.zero+(t-s.first) / 8=r:=by rw [hr];rfl
 rw [← hr]
 rw [I] at E
 clear hr I hB J H G hq
 go_enter Tryz.func116,Tryz.ntmps116
 go_wp2_with fail
 refine (k1.out _ C.out).mono ?_
 rintro e w1 ⟨rfl,D⟩
 have B:=O.out.later D
 have s0:=B.at 0 _ rfl
 have s1:=B.at 1 _ rfl
 have s2:=B.at 2 _ rfl
 have s3:=B.at 3 _ rfl
 have s4:=B.at 4 _ rfl
 have s5:=B.at 5 _ rfl
 have s6:=B.at 6 _ rfl
 have s7:=B.at 7 _ rfl
 have s8:=B.at 8 _ rfl
 have s9:=B.at 9 _ rfl
 have Jh:=B.at 10 _ rfl
 have Nv:=B.at 11 _ rfl
 have Hz:=B.at 12 _ rfl
 have Iq:=B.at 13 _ rfl
 have K:=Z9 (C.out.trans (D.mono C.out.size))
 clear D B
 go_wp2_with fail
 refine (E.out _).mono ?_
 rintro e w2 ⟨rfl,M⟩
 have N:=Z9 (K.out.trans (M.mono K.out.size))
 clear M s0 s1 s2 s3 s4 s5 s6 s7 s8 s9 Jh Nv Hz Iq
 go_wp2_with fail
 go_ret
 exact ⟨rfl,N.out⟩
theorem zsn (s:Nat→Value):((List.range 164).map s).toArray = #[s 0,s 1,s 2,s 3,s 4,s 5,s 6,s 7,s 8,s 9,s 10,s 11,s 12,s 13,s 14,s 15,s 16,s 17,s 18,s 19,s 20,s 21,s 22,s 23,s 24,s 25,s 26,s 27,s 28,s 29,s 30,s 31,s 32,s 33,s 34,s 35,s 36,s 37,s 38,s 39,s 40,s 41,s 42,s 43,s 44,s 45,s 46,s 47,s 48,s 49,s 50,s 51,s 52,s 53,s 54,s 55,s 56,s 57,s 58,s 59,s 60,s 61,s 62,s 63,s 64,s 65,s 66,s 67,s 68,s 69,s 70,s 71,s 72,s 73,s 74,s 75,s 76,s 77,s 78,s 79,s 80,s 81,s 82,s 83,s 84,s 85,s 86,s 87,s 88,s 89,s 90,s 91,s 92,s 93,s 94,s 95,s 96,s 97,s 98,s 99,s 100,s 101,s 102,s 103,s 104,s 105,s 106,s 107,s 108,s 109,s 110,s 111,s 112,s 113,s 114,s 115,s 116,s 117,s 118,s 119,s 120,s 121,s 122,s 123,s 124,s 125,s 126,s 127,s 128,s 129,s 130,s 131,s 132,s 133,s 134,s 135,s 136,s 137,s 138,s 139,s 140,s 141,s 142,s 143,s 144,s 145,s 146,s 147,s 148,s 149,s 150,s 151,s 152,s 153,s 154,s 155,s 156,s 157,s 158,s 159,s 160,s 161,s 162,s 163]:=rfl
def VL.hd (v:VL) (d:Int) (A:Option Addr) (c:Nat) (l:List (Int×Int)):VL := { v with done:=d,dA:=A,dc:=c,ds:=l }
structure HdX (Sw:List Nat) (W0 W:World) (gW gc:Nat) (v:VL) (d:Int) (A:Option Addr) (c:Nat) (l:List (Int×Int)):Prop where
 blk:Blk W gW 86 ((v.hd d A c l).row gc).toArray
 cap:l.length≤c
 due:RowsAv W Sw 2 duRow A l
 ch:Chg [gW] W0 W
 gS:gW∈Sw
theorem HdX.later {v:VL} {l:List (Int×Int)} (h:HdX Sw W0 W gW gc v d A c l) (hb:Below W.heap.size W W'):HdX Sw W0 W' gW gc v d A c l:=⟨h.blk.later hb,h.cap,h.due.chg (T:=[]) (Chg.of_below hb) (by simp),h.ch.trans (Chg.of_below hb),h.gS⟩
theorem HdX.setF {v:VL} {l:List (Int×Int)} (h:HdX Sw W0 W gW gc v d A c l) (ho:OnlyB gW W W') (hb:Blk W' gW 86 ((v.hd d A c l).row gc).toArray):HdX Sw W0 W' gW gc v d A c l:=⟨hb,h.cap,h.due.chg (Chg.of_only ho (S:=[gW]) (by simp)) (fun x hx=>by simp at hx;rw [hx];exact h.gS),h.ch.trans (Chg.of_only ho (by simp)),h.gS⟩
noncomputable def hd3_code:Code:=(((findB 1 (Tryz.f79.body.getD .skip)).bind (fromReg 3)).getD .skip)
noncomputable def hd9_code:Code:=(((findB 1 (Tryz.f79.body.getD .skip)).bind (fromReg 9)).getD .skip)
theorem zue {v:VL} {p:Int×Int} {l:List (Int×Int)} {Z J9 K3:Act→World→Prop} {R:Ending→World→Prop} (X:HdX Sw W0 W gW gc v d A c (p::l))
 (h:∀ (W':World) (C:Act) (A':Option Addr) (c':Nat),HdX Sw W0 W' gW gc v (max d p.2) A' c' l→Chg [gW] W W'→Fr 164 [(4, .int .i64 (j:Int)),(0, .pointer (some ⟨gW,0,none⟩)),(1, .slice SA n sc)] C→Z C W') (C:Act) (Q:Fr 164 [(4, .int .i64 (j:Int)),(0, .pointer (some ⟨gW,0,none⟩)),(1, .slice SA n sc)] C):firstWp Tryz.prog hd9_code (Exit.inBlock 1 (Exit.then Z (Exit.then J9 (Exit.inBlock 0 (Exit.then K3 (bodyPost Tryz.prog Tryz.f79 R)))))) C W:=by
 obtain ⟨s,rfl,Ak⟩:=Q
 rw [zsn]
 obtain ⟨P,T,F,_⟩:=Ak
 rw [P,T,F]
 clear P T F
 obtain ⟨bd,B,rfl,Ru,x0,x1⟩:=zee (i:=0) (d:=p) X.due.1 rfl
 simp only [Nat.zero_mul,Nat.add_zero] at x0 x1
 have I:bd∉Sw:=X.due.2 (by simp) bd B rfl
 have J:=X.gS
 have pK:bd≠gW:=fun e=>I (by rw [e];exact J)
 have E:=Z9 J
 have M:=Z9 I
 clear J I
 have u:=X.blk.at 98 (.int .i64 d) rfl
 have Y:=X.blk.at 100 (.slice (some ⟨bd,B,none⟩) (l.length+1) c) rfl
 have fr:=X.blk.frozen 98
 have Ax:=X.blk.lt
 have t:=X.cap
 have aY:0<l.length+1:=by omega
 have L:=Z9 X
 clear X x0
 obtain ⟨N,H⟩:=nm9 (l.length+1)
 rw [← H] at Y aY
 have E9:(1:Int)≤(N:Int):=by omega
 have CS:(0:Int)<(N:Int):=by omega
 have K:=Z9 H
 have a:N≤c:=by simp at t;omega
 have CR:¬N=0:=by omega
 have E6:(N:Int)≤(c:Int):=by omega
 clear H t
 refine zas ?_
 intro _ _
 go_upto_region 9 with fail
 go_region
 all_goals
  obtain ⟨V2,G⟩:=nm9 (World.drew (W.setCell ⟨gW,98,none⟩ (.int .i64 (max d p.2))))
  have o2:OnlyB gW W V2:=by rw [G];exact (OnlyB.setCell _ _ _ _).drew
  have D:Blk V2 gW 86 ((v.hd (max d p.2) (some ⟨bd,B,none⟩) c (p::l)).row gc).toArray:=by rw [G];exact (L.out.blk.set_ 98 _).drew
  have f:=L.out.due.chg (Chg.of_only o2 (S:=[gW]) (by simp)) (fun x hx=>by simp at hx;rw [hx];exact E.out)
  have m:=L.out.ch.trans (Chg.of_only o2 (S:=[gW]) (by simp))
  have g:=Z9 (Chg.of_only o2 (S:=[gW]) (by simp))
  rw [← G]
  have Yx:V2.cell? ⟨gW,100,none⟩=some (.slice (some ⟨bd,B,none⟩) N c):=by rw [K.out];exact D.at 100 _ rfl
  have fq:=D.frozen 100
  have oU:=D.lt
  have o:=Z9 D
  have z:=Z9 f
  have V:=Z9 m
  clear G o2 D f m u Y fr x1
  have Cy:(1:Int)≤(c:Int):=by omega
  by_cases De:c=1
  · have PR:N=1:=by omega
    have Fe:l=[]:=by have:=K.out;exact List.eq_nil_of_length_eq_zero (by omega)
    subst De PR Fe
    go_wp2_with fail
    exact h _ _ (some ⟨bd,B,none⟩) 0 ⟨o.out.set_ 100 _,Nat.zero_le _,⟨RowsAt.nil' rfl,fun h0=>absurd h0 (by simp)⟩,V.out.trans (Chg.of_only (OnlyB.setCell _ _ _ _) (by simp)),E.out⟩ (g.out.trans (Chg.of_only (OnlyB.setCell _ _ _ _) (by simp))) (Fr.mk rfl ⟨rfl,rfl,rfl,trivial⟩)
  · have Iz:¬(c:Int)=1:=by omega
    have Jq:N-1=l.length:=by have:=K.out;omega
    have ho:OnlyB gW V2 (V2.setCell ⟨gW,100,none⟩ (.slice (some ⟨bd,B+2,none⟩) l.length (c-1))):=OnlyB.setCell _ _ _ _
    have O:=z.out.chg (Chg.of_only ho (S:=[gW]) (by simp)) (fun x hx=>by simp at hx;rw [hx];exact E.out)
    have U:=RowsAt.drop O.1 1
    have HD3:=Z9 O
    have y:=Z9 U
    clear O U
    go_wp2_with fail
    have G6:Blk (V2.setCell ⟨gW,100,none⟩ (.slice (some ⟨bd,B+2,none⟩) l.length (c-1))) gW 86 ((v.hd (max d p.2) (some ⟨bd,B+2,none⟩) (c-1) l).row gc).toArray:=by
     have w:=o.out.set_ 100 (.slice (some ⟨bd,B+2,none⟩) l.length (c-1))
     exact w
    refine h _ _ (some ⟨bd,B+2,none⟩) (c-1) ⟨G6,by omega,⟨by simpa using y.out,fun h0 b off e hb => ?_⟩,V.out.trans (Chg.of_only ho (by simp)),E.out⟩ (g.out.trans (Chg.of_only ho (by simp))) (Fr.mk rfl ⟨rfl,rfl,rfl,trivial⟩)
    injection e with e
    injection e with F e2
    exact M.out (F ▸ hb)
structure HdS (W:World) (gW:Nat) (v:VL) (SA:Option Addr) (ls:List TS):Prop where
 sd:SdAv W [gW] SA ls
 sent:RowsAv W [gW] 1 TF.row v.sA v.ss
 ints:∀ f∈v.ss,IntsAv W [gW] .i16 f.A f.zs
theorem HdS.chg {v:VL} (h:HdS W gW v SA ls) (hc:Chg [gW] W W'):HdS W' gW v SA ls:=⟨h.sd.chg hc (fun _ h=>h),h.sent.chg hc (fun _ h=>h),fun f hf=>(h.ints f hf).chg hc (fun _ h=>h)⟩
theorem zxo {l:List TF} (h:RowsAt W n 1 TF.row A l) {k:Nat} (hf:l[k]? = some f):∃ b off,A=some ⟨b,off,none⟩∧b<n∧W.cell? ⟨b,off+k,none⟩=some (.slice f.A f.zs.length f.c):=by
 obtain ⟨b,off,rfl,hb,hc⟩:=h (by have:=(List.getElem?_eq_some_iff.1 hf).1;omega)
 have:=hc k f hf 0 _ rfl
 exact ⟨b,off,rfl,hb,by simpa using this⟩
theorem zxp {v:VL} {p:Int×Int} {l:List (Int×Int)} {t J9 K3:Act→World→Prop} {R:Ending→World→Prop} {x:TS} (X:HdX Sw W0 W gW gc v d A c (p::l)) (S:HdS W gW v SA ls) (hn:ls.length=n) (hx:ls[j]? = some x) (h1:x.s.at_=p.1) (h2:p.1≤v.now) (h3:x.s.zs.length=160) (h4:p.2=(kk:Int)) (hf:v.ss[kk]? = some f) (h5:f.zs=[]∨f.zs=x.s.zs)
 (h:∀ (W':World) (B:Act) (A':Option Addr) (c':Nat),HdX Sw W0 W' gW gc v (max d p.2) A' c' l→HdS W' gW v SA ls→Fr 164 [(4, .int .i64 (j:Int)),(0, .pointer (some ⟨gW,0,none⟩)),(1, .slice SA n sc)] B→t B W') (B:Act) (E:Fr 164 [(4, .int .i64 (j:Int)),(0, .pointer (some ⟨gW,0,none⟩)),(1, .slice SA n sc)] B):firstWp Tryz.prog hd3_code (Exit.inBlock 1 (Exit.then t (Exit.then J9 (Exit.inBlock 0 (Exit.then K3 (bodyPost Tryz.prog Tryz.f79 R)))))) B W:=by
 obtain ⟨s,rfl,Ak⟩:=E
 rw [zsn]
 obtain ⟨P,U,T,_⟩:=Ak
 rw [P,U,T]
 clear P U T
 have y:j<ls.length:=(List.getElem?_eq_some_iff.1 hx).1
 have NP:kk<v.ss.length:=(List.getElem?_eq_some_iff.1 hf).1
 obtain ⟨bd,od,L,Ru,x0,x1⟩:=zee (i:=0) (d:=p) X.due.1 rfl
 simp only [Nat.zero_mul,Nat.add_zero] at x0 x1
 obtain ⟨bs,os,b,Df,z0⟩:=zxo S.sent.1 hf
 obtain ⟨ba,oa,Z,B5,s0,s1,s2⟩:=ztw S.sd.1.1 hx
 rw [h1] at s0
 rw [h3] at s1
 rw [h4] at x1
 have Pm:=X.blk.at 97 (.int .i64 v.now) rfl
 have Y:=X.blk.at 99 (.slice v.sA v.ss.length v.sc) rfl
 have J:=X.blk.at 100 (.slice A (l.length+1) c) rfl
 have Bi:=X.blk.at 110 (.bool false) rfl
 have Ob:=X.blk.frozen 110
 have Ax:=X.blk.lt
 rw [L] at J
 rw [b] at Y
 obtain ⟨N,O⟩:=nm9 (l.length+1)
 rw [← O] at J
 have CS:(0:Int)<(N:Int):=by omega
 have CR:¬N=0:=by omega
 have PO:0<N:=by omega
 have E8:¬(N:Int)=0:=by omega
 have Q:((N:Int)==0)=false:=by simpa using CR
 have z:decide ((N:Int)=0)=false:=decide_eq_false E8
 have oQ:(0:Int)≤(j:Int):=by omega
 have jN:(j:Int)<(n:Int):=by omega
 have Eu:(0:Int)≤(kk:Int):=by omega
 have Ug:(kk:Int)<(v.ss.length:Int):=by omega
 have Jq:¬v.now<p.1:=by omega
 have Pb:decide (v.now<p.1)=false:=decide_eq_false Jq
 have g:=S.ints f (List.mem_of_getElem? hf)
 have m:=S.sd.2 x (List.mem_of_getElem? hx)
 have M:=Z9 fun (w:f.zs=x.s.zs) (V:World) (G:Below W.heap.size W V)=>zgm f.A x.S x.s.zs 160 f.c x.c h3 V (by rw [← w];exact (g.1.keep (fun _ hp=>G.cell hp)).more G.size) ((m.1.keep (fun _ hp=>G.cell hp)).more G.size) (by omega)
 have I:=Z9 X
 have HS:=Z9 S
 have H4:=Z9 h4
 have H3:=Z9 h3
 have DK:=Z
 subst DK
 clear X S L b g m O h1 h2 h3 h4 hx hf y NP hn Z
 refine zbd ?_
 intro _ _ _ _
 go_upto_region 5 with fail
 go_region
 go_upto_region 7 with fail
 go_region
 have D:Below W.heap.size W (World.drew (World.drew W)):=Below.drew (Below.drew (Below.refl W.heap.size W))
 rcases h5 with h5|h5
 · rw [h5]
   simp only [List.length_nil]
   go_upto_region 9 with fail
   refine zao (by assumption) ?_
   have F:OnlyB gW (World.drew (World.drew W)) ((World.drew (World.drew W)).setCell ⟨gW,110,none⟩ (.bool false)):=OnlyB.setCell _ _ _ _
   have C:=(I.out.later D).setF F ((I.out.blk.later D).set_ 110 _)
   have K:Chg [gW] W ((World.drew (World.drew W)).setCell ⟨gW,110,none⟩ (.bool false)):=(Chg.of_below D).trans (Chg.of_only F (by simp))
   refine zue C (fun W' B A' c' H hc E => ?_) _ (Fr.mk rfl ⟨rfl,rfl,rfl,trivial⟩)
   exact h W' B A' c' H (HS.out.chg (K.trans hc)) E
 · have DV:f.zs.length=160:=by rw [h5];exact H3.out
   rw [DV]
   go_wp2_with fail
   refine (M.out h5 _ D).mono ?_
   rintro e w3 ⟨rfl,u⟩
   have hb:Below W.heap.size W w3:=D.trans u
   have C:=I.out.later hb
   have Wd:=C.blk.at 110 (.bool false) rfl
   have fq:=C.blk.frozen 110
   have Zs:=C.blk.lt
   have o:=Z9 C
   have a:=Z9 hb
   clear C hb u D M Pm Y J Bi Ob x0 x1 z0 s0 s1 s2
   go_upto_region 9 with fail
   refine zao (by assumption) ?_
   have F:OnlyB gW w3 (w3.setCell ⟨gW,110,none⟩ (.bool false)):=OnlyB.setCell _ _ _ _
   have X2:=o.out.setF F (o.out.blk.set_ 110 _)
   have K:Chg [gW] W (w3.setCell ⟨gW,110,none⟩ (.bool false)):=(Chg.of_below a.out).trans (Chg.of_only F (by simp))
   refine zue X2 (fun W' B A' c' H hc E => ?_) _ (Fr.mk rfl ⟨rfl,rfl,rfl,trivial⟩)
   exact h W' B A' c' H (HS.out.chg (K.trans hc)) E
def maxD (d:Int) (l:List (Int×Int)):Int:=l.foldl (fun d p=>max d p.2) d
theorem zpj (d:Int) (l:List (Int×Int)) (p:Int×Int):maxD d (l ++ [p])=max (maxD d l) p.2:=by unfold maxD;rw [List.foldl_append];rfl
def HdN (Sw:List Nat) (gW gc:Nat) (v:VL) (m:Nat) (W:World) (e:Ending) (w':World):Prop:=∃ (A':Option Addr) (c':Nat),e = .returned (.tuple #[])∧HdX Sw W w' gW gc v (maxD v.done (v.ds.take m)) A' c' (v.ds.drop m)
def HdK (v:VL) (x:TS) (p:Int×Int):Prop:=x.s.at_=p.1∧p.1≤v.now∧x.s.zs.length=160∧∃ (kk:Nat) (f:TF),p.2=(kk:Int)∧v.ss[kk]? = some f∧(f.zs=[]∨f.zs=x.s.zs)
def HdJ (Sw:List Nat) (W:World) (gW gc:Nat) (v:VL) (SA:Option Addr) (ls:List TS) (FR:List (Nat×Value)) (m:Nat) (c:Act) (wr:World):Prop:=∃ (j:Nat) (A:Option Addr) (cc:Nat),m+j=ls.length∧HdX Sw W wr gW gc v (maxD v.done (v.ds.take j)) A cc (v.ds.drop j)∧HdS wr gW v SA ls∧Fr 164 ((4, .int .i64 (j:Int))::FR) c
theorem zif (Sw:List Nat) (gW gc n:Nat) (v:VL) (SA:Option Addr) (sc:Nat) (ls:List TS) (W:World) (hB:Blk W gW 86 (v.row gc).toArray) (T:v.ds.length≤v.dc) (M:gW∈Sw) (L:RowsAv W Sw 2 duRow v.dA v.ds) (S:HdS W gW v SA ls) (hn:ls.length=n) (w:n≤100000) (g:∀ (j:Nat) (x:TS),ls[j]? = some x→∃ p,v.ds[j]? = some p∧HdK v x p) (P:∀ p,v.ds[ls.length]? = some p→v.now<p.1):Calls Tryz.prog 79 #[.pointer (some ⟨gW,0,none⟩), .slice SA n sc] W (HdN Sw gW gc v n W):=by
 have X0:HdX Sw W W gW gc v (maxD v.done (v.ds.take 0)) v.dA v.dc (v.ds.drop 0):=⟨hB,T,L,Chg.refl _ _,M⟩
 clear hB T L M
 go_enter Tryz.func79,Tryz.ntmps79
 go_wp2_with fail
 refine wp_loop_rounds (n+1) (zav (HdJ Sw W gW gc v SA ls [(0, .pointer (some ⟨gW,0,none⟩)),(1, .slice SA n sc)]) (fun m c wr h => ?_) n _ _ ⟨0,v.dA,v.dc,by omega,X0,S,Fr.mk rfl ⟨rfl,rfl,rfl,trivial⟩⟩)
 clear X0 S
 obtain ⟨j,A,cc,hm,X,S,hc⟩:=h
 obtain ⟨s,rfl,J⟩:=hc
 rw [zsn]
 obtain ⟨E,G,F,_⟩:=J
 rw [E,G,F]
 clear E G F
 by_cases V:j<n
 · have U:(j:Int)<(n:Int):=by omega
   obtain ⟨x,hx⟩:∃ x,ls[j]? = some x:=⟨_,List.getElem?_eq_getElem (by omega)⟩
   obtain ⟨p,hp,h1,h2,h3,kk,f,h4,hf,h5⟩:=g j x hx
   have R:j<v.ds.length:=(List.getElem?_eq_some_iff.1 hp).1
   have B:v.ds.drop j=p::v.ds.drop (j+1):=by
    rw [List.drop_eq_getElem_cons R]
    have:=(List.getElem?_eq_some_iff.1 hp).2
    rw [this]
   have o:v.ds.take (j+1)=v.ds.take j ++ [p]:=by
    rw [List.take_succ_eq_append_getElem R]
    have:=(List.getElem?_eq_some_iff.1 hp).2
    rw [this]
   rw [B] at X
   go_upto_region 3 with fail
   refine zba (by assumption) (by assumption) ?_
   refine zxp X S hn hx h1 h2 h3 h4 hf h5 (fun W' Bd A' c' O S' Y => ?_) _ (Fr.mk rfl ⟨rfl,rfl,rfl,trivial⟩)
   rw [← zpj,← o] at O
   obtain ⟨s,rfl,J⟩:=Y
   rw [zsn]
   obtain ⟨E,G,F,_⟩:=J
   rw [E,G,F]
   clear X S
   go_wp2_with fail
   exact ⟨m-1,by omega,j+1,A',c',by omega,O,S',Fr.mk rfl ⟨rfl,rfl,rfl,trivial⟩⟩
 · have U:¬(j:Int)<(n:Int):=by omega
   obtain rfl:j=n:=by omega
   have Pm:=X.blk.at 97 (.int .i64 v.now) rfl
   have I:=X.blk.at 100 (.slice A (v.ds.drop j).length cc) rfl
   have Bi:=X.blk.at 110 (.bool false) rfl
   have Ob:=X.blk.frozen 110
   have Ax:=X.blk.lt
   have H:=Z9 X
   cases B:v.ds.drop j with
   | nil =>
     rw [B] at I
     simp only [List.length_nil] at I
     clear X S B
     go_upto_region 11 with fail
     go_region
     go_wp2_with fail
     go_end0
     have C:Below wr.heap.size wr (World.drew wr):=Below.drew (Below.refl _ _)
     exact ⟨A,cc,rfl,(H.out.later C).setF (OnlyB.setCell _ _ _ _) ((H.out.blk.later C).set_ 110 _)⟩
   | cons p l =>
     have hp:v.ds[ls.length]? = some p:=by
      rw [hn,← Nat.add_zero j,← List.getElem?_drop,B]
      rfl
     have t:=P p hp
     rw [B] at X
     obtain ⟨bd,a,K,Ru,x0,x1⟩:=zee (i:=0) (d:=p) X.due.1 rfl
     simp only [Nat.zero_mul,Nat.add_zero] at x0
     rw [K] at I
     obtain ⟨N,D⟩:=nm9 ((v.ds.drop j).length)
     rw [← D] at I
     rw [B] at D
     simp only [List.length_cons] at D
     have Q:(0:Int)<(N:Int):=by omega
     have CR:¬N=0:=by omega
     have y:0<N:=by omega
     have b:decide ((0:Int)<(N:Int))=true:=decide_eq_true Q
     have Z:decide (0<N)=true:=decide_eq_true y
     have u:¬p.1≤v.now:=by omega
     have Ue:decide (p.1≤v.now)=false:=decide_eq_false u
     have z:=Z9 B
     clear X S B D hp K x1 P t
     go_upto_region 11 with fail
     go_region
     go_wp2_with fail
     go_end0
     have C:Below wr.heap.size wr (World.drew wr):=Below.drew (Below.refl _ _)
     exact ⟨A,cc,rfl,(H.out.later C).setF (OnlyB.setCell _ _ _ _) ((H.out.blk.later C).set_ 110 _)⟩
def befD (p d:Int×Int):Prop:=p.1<d.1∨(p.1=d.1∧p.2<d.2)
instance (p d:Int×Int):Decidable (befD p d):=by unfold befD;infer_instance
def insD (l:List (Int×Int)) (d:Int×Int):List (Int×Int):=l.takeWhile (fun p=>decide (befD p d))++d::l.dropWhile (fun p=>decide (befD p d))
theorem zvx (d:Int×Int):∀ (l:List (Int×Int)) (k:Nat),k≤l.length→(∀ (i:Nat) (p:Int×Int),i<k→l[i]? = some p→befD p d)→(∀ p,l[k]? = some p→¬befD p d)→insD l d=l.take k++d::l.drop k:=by
 intro l
 unfold insD
 induction l with
 | nil=>intro k hk _ _;simp at hk;subst hk;rfl
 | cons a l ih =>
   intro k hk h1 h2
   cases k with
   | zero =>
     have:=h2 a rfl
     rw [List.takeWhile_cons,List.dropWhile_cons,if_neg (by simpa using this),if_neg (by simpa using this)]
     rfl
   | succ k =>
     have A:=h1 0 a (by omega) rfl
     rw [List.takeWhile_cons,List.dropWhile_cons,if_pos (by simpa using A),if_pos (by simpa using A)]
     have:=ih k (by simpa using hk) (fun i p hi hp=>h1 (i+1) p (by omega) (by simpa using hp)) (fun p hp=>h2 p (by simpa using hp))
     simpa using this
theorem RowsAt.take' {α : Type} {size:Nat} {row : α → List Value} {l:List α} (h:RowsAt w B size row A l) (n:Nat):RowsAt w B size row A (l.take n):=fun h0=>by
 obtain ⟨b,off,e,hb,hc⟩:=h (by simp at h0;omega)
 exact ⟨b,off,e,hb,fun i a hi j v hv=>hc i a (by
  rw [List.getElem?_take] at hi
  split at hi
  · exact hi
  · cases hi) j v hv⟩
noncomputable def ins5_code:Code:=((Tryz.f117.body.bind (fromReg 5)).getD .skip)
noncomputable def ins10_code:Code:=((Tryz.f117.body.bind (fromReg 10)).getD .skip)
def InsJ (I:World→Prop) (d:Int×Int) (ds:List (Int×Int)) (FR:List (Nat×Value)) (m:Nat) (c:Act) (wr:World):Prop:=∃ k:Nat,m+k=ds.length∧I wr∧(∀ (i:Nat) (p:Int×Int),i<k→ds[i]? = some p→befD p d)∧Fr 99 ((6, .int .i64 (k:Int))::FR) c
def InsL (I:World→Prop) (n:Nat) (FR:List (Nat×Value)) (m:Nat) (c:Act) (wr:World):Prop:=∃ i:Nat,m+i=n∧I wr∧Fr 99 ((7, .int .i64 (i:Int))::FR) c
structure InsM (W wr:World) (gW g3:Nat) (cs:Array Value) (A:Option Addr) (c:Nat) (d:Int×Int) (ds:List (Int×Int)):Prop where
 b:Blk wr gW 86 cs
 y:wr.cell? ⟨gW,100,none⟩=some (.slice A ds.length c)
 b3:Blk wr g3 135 #[.int .i64 d.1, .int .i64 d.2]
 r:RowsAt wr wr.heap.size 2 duRow A ds
 u:Below W.heap.size W wr
theorem InsM.later {d:Int×Int} {ds:List (Int×Int)} (h:InsM W wr gW g3 cs A c d ds) (hb:Below wr.heap.size wr X):InsM W X gW g3 cs A c d ds:=⟨h.b.later hb,zae hb h.y,h.b3.later hb,(h.r.keep (fun _ hp=>hb.cell hp)).more hb.size,h.u.trans (hb.mono h.u.size)⟩
theorem InsM.drew {d:Int×Int} {ds:List (Int×Int)} (h:InsM W wr gW g3 cs A c d ds):InsM W wr.drew gW g3 cs A c d ds:=⟨h.b.drew,h.y,h.b3.drew,h.r,Below.drew h.u⟩
theorem zvy {k:Nat} {d:Int×Int} {ds:List (Int×Int)} {R:Ending→World→Prop} (M:InsM W w1 gW g3 cs A c d ds) (hn:ds.length=n) (hl:n≤1000) (O:∀ p∈ds,p.2≠d.2)
 (h:∀ (wr:World) (F:Act),InsM W wr gW g3 cs A c d ds→Fr 99 [(6, .int .i64 (k:Int)),(0, .pointer (some ⟨gW,0,none⟩)),(3, .pointer (some ⟨g3,0,none⟩)),(5, .slice none 0 0)] F→firstWp Tryz.prog ins10_code (bodyPost Tryz.prog Tryz.f117 R) F wr) (F:Act) (J:Fr 99 [(6, .int .i64 (k:Int)),(0, .pointer (some ⟨gW,0,none⟩)),(3, .pointer (some ⟨g3,0,none⟩)),(5, .slice none 0 0)] F):firstWp Tryz.prog ins5_code (bodyPost Tryz.prog Tryz.f117 R) F w1:=by
 obtain ⟨s,rfl,G⟩:=J
 simp only [rl9]
 obtain ⟨B,E,D,C,_⟩:=G
 rw [B,E,D,C]
 clear B E D C
 refine zbd ?_
 intro _ _ _ _
 go_upto_region 5 with fail
 go_wp2_with fail
 refine wp_loop_rounds (n+1) (zav (InsL (fun wr=>InsM W wr gW g3 cs A c d ds) n [(6, .int .i64 (k:Int)),(0, .pointer (some ⟨gW,0,none⟩)),(3, .pointer (some ⟨g3,0,none⟩)),(5, .slice none 0 0)]) (fun m c9 wr K => ?_) n _ _ ⟨0,by omega,M,Fr.mk rfl ⟨rfl,rfl,rfl,rfl,rfl,trivial⟩⟩)
 clear M
 obtain ⟨i,hm,M,hc⟩:=K
 obtain ⟨s,rfl,G⟩:=hc
 simp only [rl9]
 obtain ⟨H,B,E,D,C,_⟩:=G
 rw [H,B,E,D,C]
 clear H B E D C
 have y:=M.y
 rw [hn] at y
 by_cases hi:i<n
 rotate_left
 · have L:¬(i:Int)<(n:Int):=by omega
   go_upto_region 10 with fail
   refine zao (by assumption) ?_
   exact h _ _ M (Fr.mk rfl ⟨rfl,rfl,rfl,rfl,trivial⟩)
 have L:(i:Int)<(n:Int):=by omega
 have V:(0:Int)≤(i:Int):=by omega
 obtain ⟨p,hp⟩:∃ p,ds[i]? = some p:=⟨_,List.getElem?_eq_getElem (by omega)⟩
 obtain ⟨bd,P,rfl,U,x0,x1⟩:=zee (i:=i) (d:=p) M.r hp
 have z1:=M.b3.at 1 (.int .i64 d.2) rfl
 have N:=O p (List.mem_of_getElem? hp)
 have T:decide (p.2=d.2)=false:=decide_eq_false N
 have I:=Z9 M.drew
 clear M x0
 go_upto_region 8 with fail
 go_region
 generalize World.drew wr=W9 at I ⊢
 clear x1 z1 y
 go_wp2_with fail
 exact ⟨m-1,by omega,i+1,by omega,I.out,Fr.mk rfl ⟨rfl,rfl,rfl,rfl,rfl,trivial⟩⟩
def InsN (gW:Nat) (cs:Array Value) (ds:List (Int×Int)) (W:World) (e:Ending) (w':World):Prop:=∃ (A':Option Addr) (c':Nat),e = .returned (.bool true)∧ds.length≤c'∧Blk w' gW 86 (cs.setIfInBounds 100 (.slice A' ds.length c'))∧RowsNew W.heap.size w' 2 duRow A' ds∧Chg [gW] W w'
theorem zso {k:Nat} {d:Int×Int} {ds:List (Int×Int)} (M:InsM W w1 gW g3 cs A c d ds) (Yl:gW<W.heap.size) (hn:ds.length=n) (hl:n≤1000) (hk:k≤n) (hc:n≤c) (Rp:insD ds d=ds.take k++d::ds.drop k) (Bd:Act) (T:Fr 99 [(6, .int .i64 (k:Int)),(0, .pointer (some ⟨gW,0,none⟩)),(3, .pointer (some ⟨g3,0,none⟩)),(5, .slice none 0 0)] Bd):firstWp Tryz.prog ins10_code (bodyPost Tryz.prog Tryz.f117 (InsN gW cs (insD ds d) W)) Bd w1:=by
 obtain ⟨s,rfl,Ak⟩:=T
 simp only [rl9]
 obtain ⟨e6,e0,e3,e5,_⟩:=Ak
 rw [e6,e0,e3,e5]
 clear e6 e0 e3 e5
 have y:=M.y
 rw [hn] at y
 have Eu:(0:Int)≤(k:Int):=by omega
 have hkc:(k:Int)≤(c:Int):=by omega
 have oN:(k:Int)≤(n:Int):=by omega
 have d6:(ds.take k).length=k:=by rw [List.length_take];omega
 have d9:(ds.drop k).length=n-k:=by rw [List.length_drop];omega
 have F:=Z9 M
 have w:=Z9 Rp
 clear M Rp
 refine zas ?_
 intro _ _
 go_upto_region 11 with (at_builtin;go_loud (refine zau rfl _ _ 83 rfl w1.heap.size 135 2 16 _ Tryz.underlying83 zds rfl (by decide) none 0 0 [] rfl Owns.nil w1.heap.size duRow (fun _=>rfl) (fun a u hu=>by simp [duRow] at hu;rcases hu with h|h<;>subst h<;>rfl) A k c (ds.take k) rfl (F.out.r.take' k) d6 (by unfold maxLen;omega) (by omega) (Nat.le_refl _) k (by omega) ?_);intro A1 c1 w2 Sv H BE)
 have V:=H.size
 have mS:Below W.heap.size W w2:=F.out.u.grown H F.out.u.size (fun g e=>by simp [ownB] at e)
 have Ab:=F.out.b.grown H (by simp [ownB])
 have z:w2.cell? ⟨gW,100,none⟩=some (.slice A n c):=H.cell y (by simp [ownB])
 have U:=F.out.b3.grown H (by simp [ownB])
 have Q:RowsAt w2 w1.heap.size 2 duRow A ds:=F.out.r.grown H (Nat.le_refl _) (fun g e=>by simp [ownB] at e)
 have x0:=U.at 0 (.int .i64 d.1) rfl
 have x1:=U.at 1 (.int .i64 d.2) rfl
 have i5:gW<w1.heap.size:=Nat.lt_of_lt_of_le Yl F.out.u.size
 have o:=F.out.u.size
 have L:=Z9 Sv
 have Aw:=Z9 Ab
 have f:=Z9 mS
 have bX:=Z9 Q
 clear Sv Ab mS U Q H BE y F
 go_upto_region 12 with (at_builtin;go_loud (refine zan (w0:=w2) rfl _ _ 83 rfl w1.heap.size 135 2 16 _ Tryz.underlying83 zds rfl (by decide) A1 k c1 _ rfl L.out [.int .i64 d.1, .int .i64 d.2] rfl (by simp [Value.oneCell']) rfl (by unfold maxLen;omega) (by omega) V ?_);intro A2 c2 w3 m K Ix)
 have Pa:some gW≠ownB A1:=fun e=>by have:=(L.out.block gW e.symm).1;omega
 have qA:∀ g,ownB A1=some g→w1.heap.size≤g:=fun g e=>(L.out.block g e).1
 have zX:=K.size
 have x:w3.cell? ⟨gW,100,none⟩=some (.slice A n c):=K.cell z Pa
 have Ad:=Aw.out.grown K Pa
 have MT:Below W.heap.size W w3:=f.out.grown K f.out.size (fun g e=>Nat.le_trans o (qA g e))
 have Wn:RowsAt w3 w1.heap.size 2 duRow A ds:=bX.out.grown K V qA
 have Xq:∀ g,ownB A2=some g→w1.heap.size≤g:=fun g e=>(m.block g e).1
 have I:some gW≠ownB A2:=fun e=>by have:=Xq gW e.symm;omega
 have N:=Z9 m
 have J:=Z9 Ad
 have Jm:=Z9 MT
 have Rb:=Z9 Wn
 have P:w1.heap.size≤w3.heap.size:=Nat.le_trans V zX
 clear m Ad MT Wn K Ix z L Aw f bX x0 x1
 have Cp:∀ (C:Option Addr) (c3:Nat) (w4:World),Owns w4 w1.heap.size 135 2 C (n+1) c3 (([]++(ds.take k).flatMap duRow) ++ [.int .i64 d.1, .int .i64 d.2]++(ds.drop k).flatMap duRow)→w3.grownBy w4 (ownB A2)→InsN gW cs (insD ds d) W (.returned (.bool true)) (w4.setCell ⟨gW,100,none⟩ (.slice C (n+1) c3)):=fun C c3 w4 D B=>by
  have Qm:=J.out.grown B I
  have t:(insD ds d).length=n+1:=by rw [w.out];simp;omega
  have Oi:([]++(ds.take k).flatMap duRow) ++ [.int .i64 d.1, .int .i64 d.2]++(ds.drop k).flatMap duRow=(insD ds d).flatMap duRow:=by rw [w.out];simp [duRow]
  rw [Oi] at D
  have hr:=zdb (row:=duRow) (size:=2) (fun _=>rfl) (by decide) (ps:=insD ds d) D t
  have o2:OnlyB gW w4 (w4.setCell ⟨gW,100,none⟩ (.slice C (n+1) c3)):=OnlyB.setCell _ _ _ _
  have Pf:Below W.heap.size W w4:=Jm.out.grown B Jm.out.size (fun g e=>Nat.le_trans o (Xq g e))
  have QQ:∀ b off,C=some ⟨b,off,none⟩→W.heap.size≤b:=fun b off e=>Nat.le_trans o (D.block b (by rw [e];rfl)).1
  refine ⟨C,c3,rfl,by rw [t];exact D.cap,by rw [t];exact Qm.set_ 100 _,⟨fun h0 => ?_,fun h0 b off e=>QQ b off e⟩,(Chg.of_below Pf).trans (Chg.of_only o2 (by simp))⟩
  obtain ⟨b,off,e,hlt,Cd⟩:=hr.1 h0
  have h9:=QQ b off e
  refine ⟨b,off,e,by rw [o2.2];exact hlt,fun i a T j v hv => ?_⟩
  rw [o2.cell (p:=⟨b,off+i*2+j,none⟩) (by show b≠gW;omega)]
  exact Cd i a T j v hv
 have l:=Z9 Cp
 have f2:=J.out.frozen 100
 have Zs:=J.out.lt
 clear Cp
 by_cases Ol:c=k
 · have ZN:n=k:=by omega
   subst ZN
   subst Ol
   have Ok:ds.drop c=[]:=List.drop_eq_nil_of_le (by omega)
   have E:=l.out
   rw [Ok] at E
   have E:=Z9 E
   clear Ok
   go_upto_region 13 with (at_builtin;go_loud (refine zau rfl _ _ 83 rfl w1.heap.size 135 2 16 _ Tryz.underlying83 zds rfl (by decide) A2 (c+1) c2 _ rfl N.out w3.heap.size duRow (fun _=>rfl) (fun a u hu=>by simp [duRow] at hu;rcases hu with h|h<;>subst h<;>rfl) _ _ _ [] rfl (RowsAt.nil' rfl) (by simp) (by unfold maxLen;simp;omega) (by simp;omega) P (c+1) (by simp) ?_);intro C c3 w4 D B Z;have G:=E.out C c3 w4 D B;have X:=(J.out.grown B I).lt;have R:=B.cell x I;have f4:=(J.out.grown B I).frozen 100)
   go_wp2_with fail
   go_ret
   exact G
 · have pE:¬(c:Int)=(k:Int):=by omega
   have Y:=Z9 fun (C:Option Addr) (c3:Nat) (w4:World) (B:w3.grownBy w4 (ownB A2))=>(⟨(J.out.grown B I).lt,B.cell x I,(J.out.grown B I).frozen 100⟩:gW<w4.heap.size∧w4.cell? ⟨gW,100,none⟩=some (.slice A n c)∧w4.frozen? ⟨gW,100,none⟩=false)
   by_cases O:ds=[]
   · have Qj:n=0:=by rw [← hn,O];rfl
     have Eu:k=0:=by omega
     subst O Eu Qj
     have E:=l.out
     rw [List.drop_nil] at E
     have E:=Z9 E
     cases A with
     | none =>
       go_upto_region 13 with (at_builtin;go_loud (refine zau rfl _ _ 83 rfl w1.heap.size 135 2 16 _ Tryz.underlying83 zds rfl (by decide) A2 (0+1) c2 _ rfl N.out w3.heap.size duRow (fun _=>rfl) (fun a u hu=>by simp [duRow] at hu;rcases hu with h|h<;>subst h<;>rfl) _ _ _ [] rfl (RowsAt.nil' rfl) (by simp) (by unfold maxLen;simp) (by simp) P (0+1) (by simp) ?_);intro C c3 w4 D B Z;have G:=E.out C c3 w4 D B;obtain ⟨X,R,f4⟩:=Y.out C c3 w4 B)
       go_wp2_with fail
       all_goals
        go_ret
        exact G
     | some a =>
       obtain ⟨ab,ao,al⟩:=a
       cases al<;>skip
       go_upto_region 13 with (at_builtin;go_loud (refine zau rfl _ _ 83 rfl w1.heap.size 135 2 16 _ Tryz.underlying83 zds rfl (by decide) A2 (0+1) c2 _ rfl N.out w3.heap.size duRow (fun _=>rfl) (fun a u hu=>by simp [duRow] at hu;rcases hu with h|h<;>subst h<;>rfl) _ _ _ [] rfl (RowsAt.nil' rfl) (by simp) (by unfold maxLen;simp) (by simp) P (0+1) (by simp) ?_);intro C c3 w4 D B Z;have G:=E.out C c3 w4 D B;obtain ⟨X,R,f4⟩:=Y.out C c3 w4 B)
       go_wp2_with fail
       all_goals
        go_ret
        exact G
   · obtain ⟨b,off,rfl,Om,Nf⟩:=Rb.out (List.length_pos_iff.2 O)
     have Q8:=Z9 (RowsAt.drop Rb.out k)
     clear Nf O hn
     go_upto_region 13 with (at_builtin;go_loud (refine zau rfl _ _ 83 rfl w1.heap.size 135 2 16 _ Tryz.underlying83 zds rfl (by decide) A2 (k+1) c2 _ rfl N.out w1.heap.size duRow (fun _=>rfl) (fun a u hu=>by simp [duRow] at hu;rcases hu with h|h<;>subst h<;>rfl) _ _ _ (ds.drop k) rfl Q8.out d9 (by unfold maxLen;omega) (by omega) P (n+1) (by omega) ?_);intro C c3 w4 D B Z;have G:=l.out C c3 w4 D B;obtain ⟨X,R,f4⟩:=Y.out C c3 w4 B)
     go_wp2_with fail
     go_ret
     exact G
theorem zsp (gW n:Nat) (cs:Array Value) (A:Option Addr) (c:Nat) (d:Int×Int) (ds:List (Int×Int)) (W:World) (hB:Blk W gW 86 cs) (y:W.cell? ⟨gW,100,none⟩=some (.slice A ds.length c)) (t:RowsAt W W.heap.size 2 duRow A ds) (hc:ds.length≤c) (hl:ds.length≤1000) (Ao:∀ p∈ds,p.2≠d.2):Calls Tryz.prog 117 #[.pointer (some ⟨gW,0,none⟩), .agg #[.int .i64 d.1, .int .i64 d.2]] W (InsN gW cs (insD ds d) W):=by
 obtain ⟨d1,D⟩:=d
 simp only
 have Ax:=hB.lt
 obtain ⟨W1,V⟩:=nm9 (W.alloc (.cells #[.int .i64 d1, .int .i64 D] 135))
 have K:Below W.heap.size W W1:=by rw [V];exact (Below.refl _ _).alloc (Nat.le_refl _) _
 have b1:Blk W1 W.heap.size 135 #[.int .i64 d1, .int .i64 D]:=by rw [V];exact Blk.new _ _ _
 obtain ⟨g3,o⟩:=nm9 W.heap.size
 rw [← o] at b1
 have M0:InsM W W1 gW g3 cs A c (d1,D) ds:=⟨hB.later K,(K.cell (p:=⟨gW,100,none⟩) Ax).trans y,b1,(t.keep (fun _ hp=>K.cell hp)).more K.size,K⟩
 have HG:=Z9 o
 have HW:=Z9 V
 obtain ⟨N,f⟩:=nm9 ds.length
 rw [← f] at hc hl
 have I:=f.symm
 clear f y hB t K b1 o V 
 go_enter Tryz.func117,Tryz.ntmps117
 go_upto_region 1 with fail
 rw [← HW.out,← HG.out]
 go_wp2_with fail
 refine wp_loop_rounds (N+1) (zav (InsJ (fun wr=>InsM W wr gW g3 cs A c (d1,D) ds) (d1,D) ds [(0, .pointer (some ⟨gW,0,none⟩)),(3, .pointer (some ⟨g3,0,none⟩)),(5, .slice none 0 0)]) (fun m c9 wr hJ => ?_) N _ _ ⟨0,by omega,M0,fun i p h=>absurd h (by omega),Fr.mk rfl ⟨rfl,rfl,rfl,rfl,trivial⟩⟩)
 clear M0 HG HW
 obtain ⟨k,hm,M,U,Cd⟩:=hJ
 obtain ⟨s,rfl,Ak⟩:=Cd
 simp only [rl9]
 obtain ⟨u,Q,z,x,_⟩:=Ak
 rw [u,Q,z,x]
 clear u Q z x
 have y:=M.y
 rw [I] at y hm
 have T:=Z9 fun (hb:∀ p,ds[k]? = some p→¬befD p (d1,D)) (wr:World) (Bd:Act) (M':InsM W wr gW g3 cs A c (d1,D) ds) (ha:Fr 99 [(6, .int .i64 (k:Int)),(0, .pointer (some ⟨gW,0,none⟩)),(3, .pointer (some ⟨g3,0,none⟩)),(5, .slice none 0 0)] Bd)=>zvy (R:=InsN gW cs (insD ds (d1,D)) W) M' I hl Ao (fun w8 a8 M8 h8=>zso M8 Ax I hl (by omega) hc (zvx _ _ k (by omega) U hb) a8 h8) Bd ha
 by_cases hk:k<N
 rotate_left
 · have H:=Z9 (T.out (fun p hp=>absurd (List.getElem?_eq_some_iff.1 hp).1 (by omega)) · · ·)
   have g:¬(k:Int)<(N:Int):=by omega
   have Wz:decide ((k:Int)<(N:Int))=false:=decide_eq_false g
   have NR:decide (k<N)=false:=decide_eq_false hk
   have F:=Z9 M
   clear M T U I hm
   go_upto_region 3 with fail
   refine wp_region_held_drew (S:=fun w'=>Below wr.heap.size wr w') (by kernel_rfl) (Below.drew (Below.refl _ _)) (fun C => ?_)
   obtain ⟨X,E⟩:=nm9 wr.drew
   rw [← E] at C ⊢
   clear E
   iterate 46
    first
    | refine tkN 46 (v:=undef) rfl rfl (Or.inr ⟨by rfl,rfl⟩) C ?_
    | (refine tkM 46 (v:=?_) rfl rfl ?_ C ?_
       rotate_left
       · (intro w B;have O:=zae B y;clear B;go_simp;try with_reducible rfl))
    try simp only [ss9]
   refine wpAnyH_done (by kernel_rfl) ?_ _
   go_upto_region 5 with fail
   refine zba (by assumption) (by assumption) ?_
   exact H.out _ _ (F.out.later C) (Fr.mk rfl ⟨rfl,rfl,rfl,rfl,trivial⟩)
 have g:(k:Int)<(N:Int):=by omega
 have Eu:(0:Int)≤(k:Int):=by omega
 have Wz:decide ((k:Int)<(N:Int))=true:=decide_eq_true g
 obtain ⟨⟨p1,G⟩,hp⟩:∃ p,ds[k]? = some p:=⟨_,List.getElem?_eq_getElem (by omega)⟩
 obtain ⟨bd,od,rfl,Ru,x0,x1⟩:=zee (i:=k) M.r hp
 have z0:=M.b3.at 0 (.int .i64 d1) rfl
 have z1:=M.b3.at 1 (.int .i64 D) rfl
 have J:=Z9 fun (h:befD (p1,G) (d1,D)) (i:Nat) (q:Int×Int) (hi:i<k+1) (hq:ds[i]? = some q)=>(show befD q (d1,D) from by
  by_cases bE:i=k
  · subst bE
    rw [hp] at hq
    injection hq with hq
    rw [← hq];exact h
  · exact U i q (by omega) hq)
 have L:=Z9 fun (h:¬befD (p1,G) (d1,D))=>(T.out (fun p P=>by rw [hp] at P;injection P with P;rw [← P];exact h) · · ·)
 have F:=Z9 M
 have a:=Z9 I
 clear M T U I hp
 rcases Int.lt_trichotomy p1 d1 with h1|h1|h1
 · have hB:=J.out (Or.inl h1)
   have l:=Z9 hB
   clear J L hB z1 x1
   have h2:decide (p1<d1)=true:=decide_eq_true h1
   go_upto_region 3 with fail
   refine wp_region_held_drew (S:=fun w'=>Below wr.heap.size wr w') (by kernel_rfl) (Below.drew (Below.refl _ _)) (fun C => ?_)
   obtain ⟨X,E⟩:=nm9 wr.drew
   rw [← E] at C ⊢
   clear E
   iterate 46
    first
    | refine tkN 46 (v:=undef) rfl rfl (Or.inr ⟨by rfl,rfl⟩) C ?_
    | (refine tkM 46 (v:=?_) rfl rfl ?_ C ?_
       rotate_left
       · (intro w B;have O:=zae B y;have Z:=zae B x0;have Y:=zae B z0;clear B;go_simp;try with_reducible rfl))
    try simp only [ss9]
   refine wpAnyH_done (by kernel_rfl) ?_ _
   have b:=Z9 (F.out.later C)
   clear x0 z0 y C F
   go_wp2_with fail
   exact ⟨m-1,by omega,k+1,by have:=a.out;omega,b.out,l.out,Fr.mk rfl ⟨rfl,rfl,rfl,rfl,trivial⟩⟩
 · subst h1
   by_cases h3:G<D
   · have hB:=J.out (Or.inr ⟨rfl,h3⟩)
     have l:=Z9 hB
     clear J L hB
     have h4:decide (G<D)=true:=decide_eq_true h3
     go_upto_region 3 with fail
     refine wp_region_held_drew (S:=fun w'=>Below wr.heap.size wr w') (by kernel_rfl) (Below.drew (Below.refl _ _)) (fun C => ?_)
     obtain ⟨X,E⟩:=nm9 wr.drew
     rw [← E] at C ⊢
     clear E
     iterate 46
      refine tkM 46 (v:=?_) rfl rfl ?_ C ?_
      rotate_left
      · (intro w B;have O:=zae B y;have Z:=zae B x0;have Y:=zae B z0;have u3:=zae B x1;have u4:=zae B z1;clear B;go_simp;try with_reducible rfl)
      try simp only [ss9]
     refine wpAnyH_done (by kernel_rfl) ?_ _
     have b:=Z9 (F.out.later C)
     clear x0 z0 y x1 z1 C F
     go_wp2_with fail
     exact ⟨m-1,by omega,k+1,by have:=a.out;omega,b.out,l.out,Fr.mk rfl ⟨rfl,rfl,rfl,rfl,trivial⟩⟩
   · have H:=L.out (by show ¬(p1<p1∨(p1=p1∧G<D));omega)
     have j:=Z9 H
     clear J L H
     have h4:decide (G<D)=false:=decide_eq_false h3
     go_upto_region 3 with fail
     refine wp_region_held_drew (S:=fun w'=>Below wr.heap.size wr w') (by kernel_rfl) (Below.drew (Below.refl _ _)) (fun C => ?_)
     obtain ⟨X,E⟩:=nm9 wr.drew
     rw [← E] at C ⊢
     clear E
     iterate 46
      refine tkM 46 (v:=?_) rfl rfl ?_ C ?_
      rotate_left
      · (intro w B;have O:=zae B y;have Z:=zae B x0;have Y:=zae B z0;have u3:=zae B x1;have u4:=zae B z1;clear B;go_simp;try with_reducible rfl)
      try simp only [ss9]
     refine wpAnyH_done (by kernel_rfl) ?_ _
     go_upto_region 5 with fail
     refine zba (by assumption) (by assumption) ?_
     exact j.out _ _ (F.out.later C) (Fr.mk rfl ⟨rfl,rfl,rfl,rfl,trivial⟩)
 · have H:=L.out (by show ¬(p1<d1∨(p1=d1∧G<D));omega)
   have j:=Z9 H
   clear J L H z1 x1
   have h2:¬p1<d1:=by omega
   have h3:decide (p1<d1)=false:=decide_eq_false h2
   have h4:¬p1=d1:=by omega
   have h5:decide (p1=d1)=false:=decide_eq_false h4
   have h6:(p1==d1)=false:=by simpa using h4
   go_upto_region 3 with fail
   refine wp_region_held_drew (S:=fun w'=>Below wr.heap.size wr w') (by kernel_rfl) (Below.drew (Below.refl _ _)) (fun C => ?_)
   obtain ⟨X,E⟩:=nm9 wr.drew
   rw [← E] at C ⊢
   clear E
   iterate 46
    first
    | refine tkN 46 (v:=undef) rfl rfl (Or.inr ⟨by rfl,rfl⟩) C ?_
    | (refine tkM 46 (v:=?_) rfl rfl ?_ C ?_
       rotate_left
       · (intro w B;have O:=zae B y;have Z:=zae B x0;have Y:=zae B z0;clear B;go_simp;try with_reducible rfl))
    try simp only [ss9]
   refine wpAnyH_done (by kernel_rfl) ?_ _
   go_upto_region 5 with fail
   refine zba (by assumption) (by assumption) ?_
   exact j.out _ _ (F.out.later C) (Fr.mk rfl ⟨rfl,rfl,rfl,rfl,trivial⟩)
noncomputable def ar6_code:Code:=((Tryz.f78.body.bind (fromReg 6)).getD .skip)
def HeedP (v:VL) (sds:List Sb.Sd):Prop:=(∀ (j:Nat) (s:Sb.Sd),sds[j]? = some s→∃ p,v.ds[j]? = some p∧s.at_=p.1∧p.1≤v.now∧s.zs.length=160∧∃ (kk:Nat) (f:TF),p.2=(kk:Int)∧v.ss[kk]? = some f∧(f.zs=[]∨f.zs=s.zs))∧∀ p,v.ds[sds.length]? = some p→v.now<p.1
def VL.hed (v:VL) (u:PQ) (m:Nat) (A:Option Addr) (c:Nat):VL := { v with u:=u,done:=maxD v.done (v.ds.take m),dA:=A,dc:=c,ds:=v.ds.drop m }
theorem HeedP.ts {v:VL} {sds:List Sb.Sd} (h:HeedP v sds) (e:ls.map TS.s=sds) (j:Nat) (x:TS) (hx:ls[j]? = some x):∃ p,v.ds[j]? = some p∧HdK v x p:=by
 have h1:sds[j]? = some x.s:=by rw [← e,List.getElem?_map,hx];rfl
 obtain ⟨p,h2,h3⟩:=h.1 j x.s h1
 exact ⟨p,h2,h3⟩
structure LnM (W:World) (Sw:List Nat) (gW:Nat) (v:VL):Prop where
 cap:v.ds.length≤v.dc
 gS:gW∈Sw
 lt:∀ x∈Sw,x<W.heap.size
 due:RowsAv W Sw 2 duRow v.dA v.ds
 sent:RowsAv W [gW] 1 TF.row v.sA v.ss
 ints:∀ f∈v.ss,IntsAv W [gW] .i16 f.A f.zs
theorem LnM.chg {v:VL} (h:LnM W Sw gW v) (hc:Chg T W W') (hs:∀ x∈T,x ∈ [gW]):LnM W' Sw gW v:=⟨h.cap,h.gS,fun x hx=>Nat.lt_of_lt_of_le (h.lt x hx) hc.size,h.due.chg hc (fun x hx=>by have:=hs x hx;simp at this;rw [this];exact h.gS),h.sent.chg hc hs,fun f hf=>(h.ints f hf).chg hc hs⟩
theorem LnM.hds {v:VL} (h:LnM W Sw gW v) (hs:SdAv W [gW] SA ls):HdS W gW v SA ls:=⟨hs,h.sent,h.ints⟩
theorem zvz (Sw:List Nat) (vd:Int) (sds:List Sb.Sd) (gW gc:Nat) (v:VL) (k:Sb.Pkt) (ok:k.ok) (u':Sb.Pt) (DA:Option Addr) (dn dc:Nat) (W:World) (hB:Blk W gW 86 (v.row gc).toArray) (Oj:(Pk.bytes k.pk).length=dn) (Uj:dn≤dc) (hD:IntsAt W W.heap.size .u8 DA (Pk.bytes k.pk)) (hM:LnM W Sw gW v) (hH:HeedP v sds) (Zh:sds.length≤100000) (Qu:k.sq<(v.ss.length:Int))
 (P:∀ (V:World) (Mx:Option Addr) (cm:Nat) (Et:Option Addr) (ce:Nat) (Pl:Option Addr) (cp:Nat),Below W.heap.size W V→IntsAt V V.heap.size .u8 Pl k.pl→Calls Tryz.prog 26 #[.agg (PA v.u.p v.u.A v.u.n v.u.c), .int .i64 v.now, .agg (k.rx Mx cm Et ce Pl cp).row] V (RecvR (u',vd,sds) V)) {R:Ending→World→Prop}
 (h:∀ (W':World) (a:Act) (gX g3:Nat) (Mx:Option Addr) (cm:Nat) (Et:Option Addr) (ce:Nat) (Pl:Option Addr) (cp:Nat) (A':Option Addr) (n' c':Nat) (l':List TW) (G:Option Addr) (L:Nat),Blk W' gW 86 (VL.row (v.hed ⟨u',A',n',c',l'⟩ sds.length G L) gc).toArray→LnM W' Sw gW (v.hed ⟨u',A',n',c',l'⟩ sds.length G L)→Blk W' gX 112 (k.rx Mx cm Et ce Pl cp).row→Blk W' g3 45 (PL u' A' n' c').toArray→W.heap.size≤gX→W.heap.size≤g3→gX≠g3→l'.map TW.w=u'.jt.q→l'.length=n'→n'≤c'→c'≤maxLen→(∀ S:List Nat,(∀ x∈S,x<W.heap.size)→QAv W' S A' l')→Chg [gW] W W'→Fr 225 [(0, .pointer (some ⟨gW,0,none⟩)),(4, .pointer (some ⟨gX,0,none⟩)),(7, .pointer (some ⟨g3,0,none⟩)),(8, .int .u8 vd)] a→firstWp Tryz.prog ar6_code (bodyPost Tryz.prog Tryz.f78 R) a W'):Calls Tryz.prog 78 #[.pointer (some ⟨gW,0,none⟩), .slice DA dn dc] W R:=by
 have Ax:=hB.lt
 have kD:=Z9 fun (V:World) J=>zvp k ok DA dn dc Oj Uj V J
 have HB:=Z9 hB
 have HD:=Z9 hD
 have Rl:0≤k.sq∧k.sq≤65535:=⟨ok.sq0,ok.sq1⟩
 obtain ⟨Rl,Bg⟩:=Rl
 replace P:=Z9 P
 replace h:=Z9 h
 have HH:=Z9 hH
 have cC:=Z9 hM
 clear hH hM
 have Pw:=Z9 ok
 clear hB hD Oj Uj ok
 go_enter Tryz.func78,Tryz.ntmps78
 go_wp2_with fail
 refine (kD.out _ HD.out).mono ?_
 rintro e w3 ⟨Mx,cm,Et,ce,Pl,cp,rfl,Fg,bQ,hb⟩
 obtain ⟨x,hx⟩:=nm9 (k.rx Mx cm Et ce Pl cp)
 have N:=Blk.new w3 112 (k.rx Mx cm Et ce Pl cp).row
 have M:=(Below.refl w3.heap.size w3).alloc (Nat.le_refl _) (Obj.cells (k.rx Mx cm Et ce Pl cp).row 112)
 obtain ⟨X0,CB⟩:=nm9 (w3.alloc (.cells (k.rx Mx cm Et ce Pl cp).row 112))
 obtain ⟨gX,U⟩:=nm9 w3.heap.size
 have zM:W.heap.size≤gX:=by rw [U];exact hb.size
 have g:=(bQ.1.keep (fun _ hp=>M.cell hp)).more M.size
 rw [← CB] at N M g
 rw [← U] at N
 have y:Below W.heap.size W X0:=hb.trans (M.mono hb.size)
 have f:=HB.out.later y
 have Bj:=f.at 97 (.int .i64 v.now) rfl
 have B:=Z9 N
 have TE:=Z9 g
 have F:=Z9 y
 have Pu:=Z9 CB
 have SG:=Z9 U
 have l5:=N.lt
 clear hb bQ M g y CB U N HD kD hx
 go_upto_region 1 with fail
 change Code.wp _ _ _ _ (w3.alloc (.cells (k.rx Mx cm Et ce Pl cp).row 112))
 rw [← Pu.out,← SG.out]
 refine zxn gW gc gX v (k.rx Mx cm Et ce Pl cp) (u',vd,sds) X0 f Bj (B.out.at 0 _ rfl) (B.out.at 1 _ rfl) (B.out.at 2 _ rfl) (B.out.at 3 _ rfl) (B.out.at 4 _ rfl) (B.out.at 5 _ rfl) (B.out.at 6 _ rfl) (B.out.at 7 _ rfl) (B.out.at 8 _ rfl) (B.out.at 9 _ rfl) (B.out.at 10 _ rfl) (fun V J=>P.out V Mx cm Et ce Pl cp (F.out.trans (J.mono F.out.size)) ((TE.out.keep (fun _ hp=>J.cell hp)).more J.size)) ?_ ?_
 · intro ch a d u w h;exact h
 intro C g3 SA sc m A' n' c' l' ls LO LN LL LK LJ LI LH LG LF LE LD lX lW u32 lV HP HQ hn Cy Iz HW Xv i iH Cb Y
 have z:ls.map TS.s=sds:=Xv.out
 have oA:sds.length=m:=by rw [← i,← z,List.length_map]
 have Y6:=Z9 (HH.out.ts z)
 clear z
 have Y5:=Z9 HH.out.2
 have O:=Z9 oA
 have TY:=Z9 i
 clear i oA
 have B1:=f.later Y.out
 have Q:=B.out.later Y.out
 have Ye:=B1.at 99 (.slice v.sA v.ss.length v.sc) rfl
 have x2:=Q.at 2 (.int .u16 k.sq) rfl
 have Ua:IntKind.i64.wrap k.sq=k.sq:=by simp only [IntKind.wrap,IntKind.bits,IntKind.signed];simp;omega
 have Wx:¬(v.ss.length:Int)≤k.sq:=by omega
 have zB:decide ((v.ss.length:Int)≤k.sq)=false:=decide_eq_false Wx
 have Aw:=Z9 B1
 have Ya:=Z9 Q
 clear f B1 Q Bj Xv HH
 go_upto_region 2 with fail
 go_region
 go_upto_region 4 with fail
 have I:Blk (World.drew C) g3 45 (PL u' A' n' c').toArray:=HP.out
 have b:Blk (World.drew C) gW 86 (v.row gc).toArray:=Aw.out
 have Xt:Blk (World.drew C) gX 112 (k.rx Mx cm Et ce Pl cp).row:=Ya.out
 have Jm:Below X0.heap.size X0 (World.drew C):=Below.drew Y.out
 have o:SdIn (World.drew C) X0.heap.size (World.drew C).heap.size SA ls:=iH.out.below (Below.drew (Below.refl C.heap.size C)) (Nat.le_refl _)
 have Td:WtsIn (World.drew C) X0.heap.size (World.drew C).heap.size A' l':=HW.out.keep (w':=World.drew C) (fun _ _ _=>rfl)
 generalize World.drew C=W2 at I b Xt Jm Td o ⊢
 have oU:=b.lt
 have Zs:=I.lt
 have jK:g3≠gX:=by omega
 have l:Below W.heap.size W W2:=F.out.trans (Jm.mono F.out.size)
 have FB:=Z9 l
 have BU:=F.out.size
 have Fp:=Z9 (cC.out.chg (Chg.of_below (S:=[]) l) (by simp))
 have Q4:=Z9 (o.av (S:=[gW]) (by intro x hx;simp at hx;rw [hx];omega))
 have R5:Hid (∀ S:List Nat,(∀ x∈S,x<W.heap.size)→QAv W2 S A' l'):=Z9 fun S t=>QAv.of_win Td (fun x hx=>by have:=t x hx;omega)
 clear HP Aw Ya Y HW iH o cC Ye x2 Ua Wx zB l Jm Td TE F Pu SG B P
 go_upto_region 5 with (first|(refine zaf rfl 45 (.tmp 7) rfl g3 0 rfl 45 (PL u' A' n' c') I 48 _ Tryz.underlying45 zai (show 0+48≤48 by decide) (PA u' A' n' c') rfl rfl ?_)|(refine zag rfl 45 (.tmp 57) (.tmp 55) rfl gW 48 rfl 86 (v.row gc) b (PL u' A' n' c') rfl zai (show 48+48≤111 by decide) rfl (VL.row { v with u:=⟨u',A',n',c',l'⟩ } gc) rfl ?_;intro WF BF Z)|fail)
 have X:Chg [gW] W2 WF:=Chg.of_only Z (by simp)
 have Ki:∀ x ∈ [gW],x ∈ [gW]:=fun _ h=>h
 have D:=Fp.out.chg X Ki
 have E:LnM WF Sw gW { v with u:=⟨u',A',n',c',l'⟩ } := ⟨D.cap,D.gS,D.lt,D.due,D.sent,D.ints⟩
 clear D
 have kH:=Z9 (zif Sw gW gc m { v with u:=⟨u',A',n',c',l'⟩ } SA sc ls WF BF E.cap E.gS E.due (E.hds (Q4.out.chg X (fun _ h=>h))) TY.out (by have:=O.out;omega) (fun j x hx=>Y6.out j x hx) (fun p hp=>Y5.out p (by rw [O.out,← TY.out];exact hp)))
 have aH:=Z9 E
 have FX:=Z9 Ki
 clear E Ki
 have US:Hid (Chg [gW] W2 WF):=Z9 X
 clear X
 have Ao:¬gX=gW:=by omega
 have Wv:¬g3=gW:=by omega
 have SN:=Z9 (Z.blk Xt Ao)
 have TH:=Z9 (Z.blk I Wv)
 clear I b Xt Z BF
 go_wp2_with fail
 refine kH.out.mono ?_
 rintro e w5 ⟨G,L,rfl,K⟩
 have H:=K.ch
 have DH:=K.blk
 rw [← O.out] at DH
 have PT:LnM w5 Sw gW (v.hed ⟨u',A',n',c',l'⟩ sds.length G L):=by
  have T:=aH.out.chg H FX.out
  have h8:=K.due
  have h7:=K.cap
  rw [← O.out] at h8 h7
  exact ⟨h7,T.gS,T.lt,h8,T.sent,T.ints⟩
 have V8:=Z9 PT
 clear K PT
 have lH:=Z9 (US.out.trans H)
 have OT:=H.blk SN.out (by simp;exact Ao)
 have PH:=H.blk TH.out (by simp;exact Wv)
 have HB5:=Z9 DH
 have kZ:=Z9 OT
 have S9:=Z9 PH
 clear DH H OT PH kH SN TH US
 go_upto_region 6 with fail
 refine zba (by assumption) (by assumption) ?_
 refine h.out w5 _ gX g3 Mx cm Et ce Pl cp A' n' c' l' G L HB5.out V8.out kZ.out S9.out zM (Nat.le_trans BU Cb) jK.symm HQ.out hn Cy Iz (fun S t => ?_) ((Chg.of_below FB.out).trans lH.out) (Fr.mk rfl ⟨rfl,rfl,rfl,rfl,trivial⟩)
 have Rw:∀ x∈gW::S,x<W.heap.size:=fun x hx=>(List.mem_cons.1 hx).elim (fun e=>e ▸ Ax) (t x)
 exact ((R5.out (gW::S) Rw).chg lH.out (by simp)).sub (fun x hx=>List.mem_cons_of_mem _ hx)
noncomputable def ar10_code:Code:=((Tryz.f78.body.bind (fromReg 10)).getD .skip)
theorem zxq {k:Sb.Pkt} (ok:k.ok) {u:Sb.Pt} {l:List TW} (D:Blk W gX 112 (k.rx Mx cm Et ce Pl cp).row) (C:Blk W g3 45 (PL u A n c).toArray) (z:k.ty≠101) (M:u.jt.ok) (hq:l.map TW.w=u.jt.q) (hn:l.length=n) (hl:n≤1000) (H:Wts W W.heap.size A l) (G:∀ a∈l,I64 a.w.m.sq) {R:Ending→World→Prop}
 (h:∀ (W':World) (a:Act),Below W.heap.size W W'→Fr 225 [(0, .pointer (some ⟨gW,0,none⟩)),(4, .pointer (some ⟨gX,0,none⟩)),(7, .pointer (some ⟨g3,0,none⟩)),(8, .int .u8 vd),(11, .int .i64 k.sq),(12, .int .i64 (Jb.ptime u.jt k.ti))] a→firstWp Tryz.prog ar10_code (bodyPost Tryz.prog Tryz.f78 R) a W') (a:Act) (j:Fr 225 [(0, .pointer (some ⟨gW,0,none⟩)),(4, .pointer (some ⟨gX,0,none⟩)),(7, .pointer (some ⟨g3,0,none⟩)),(8, .int .u8 vd)] a):firstWp Tryz.prog ar6_code (bodyPost Tryz.prog Tryz.f78 R) a W:=by
 obtain ⟨s,rfl,y⟩:=j
 simp only [rl9]
 obtain ⟨L,K,J,I,_⟩:=y
 rw [L,K,J,I]
 have x1:=D.at 1 (.int .u8 k.ty) rfl
 have O:=D.at 2 (.int .u16 k.sq) rfl
 have N:=D.at 3 (.int .u32 k.ti) rfl
 have i:=C.at 14 (.int .i64 u.jt.least) rfl
 have g:=C.at 15 (.int .i64 u.jt.most) rfl
 have f:=C.at 16 (.int .i64 u.jt.now) rfl
 have d:=C.at 17 (.bool u.jt.on) rfl
 have b:=C.at 18 (.int .i64 u.jt.zero) rfl
 have Z:=C.at 19 (.int .i64 u.jt.first) rfl
 have Y:=C.at 20 (.int .i64 u.jt.high) rfl
 have X:=C.at 21 (.int .i64 u.jt.done) rfl
 have U:=C.at 22 (.int .i64 u.jt.spread) rfl
 have T:=C.at 23 (.int .i64 u.jt.trans) rfl
 have o:=C.at 24 (.slice A n c) rfl
 have p:=C.at 25 (.int .i64 u.jt.late) rfl
 have t:=C.at 26 (.int .i64 u.jt.twice) rfl
 have v:=C.at 27 (.int .i64 u.jt.played) rfl
 have E:=Z9 fun (V:World) (F:Below W.heap.size W V)=>zpi u.jt A l n c k.ti V M hq hn (by omega) ((H.keep (fun _ hp=>F.cell hp)).more F.size) G ok.ti0 ok.ti1
 have w1:IntKind.i64.wrap k.sq=k.sq:=by have:=ok.sq0;have:=ok.sq1;simp only [IntKind.wrap,IntKind.bits,IntKind.signed];simp;omega
 have w2:IntKind.i64.wrap k.ti=k.ti:=by have:=ok.ti0;have:=ok.ti1;simp only [IntKind.wrap,IntKind.bits,IntKind.signed];simp;omega
 generalize Jb.ptime u.jt k.ti=pt at E h
 replace h:=Z9 h
 clear D C M hq hn hl H G L K J I
 refine zbd ?_
 intro _ _ _ _
 go_upto_region 9 with fail
 go_region_held3 (fun w'=>Below W.heap.size W w'∧w'.cell? ⟨gX,2,none⟩=some (.int .u16 k.sq)∧w'.cell? ⟨gX,3,none⟩=some (.int .u32 k.ti)∧w'.cell? ⟨g3,14,none⟩=some (.int .i64 u.jt.least)∧w'.cell? ⟨g3,15,none⟩=some (.int .i64 u.jt.most)∧w'.cell? ⟨g3,16,none⟩=some (.int .i64 u.jt.now)∧w'.cell? ⟨g3,17,none⟩=some (.bool u.jt.on)∧w'.cell? ⟨g3,18,none⟩=some (.int .i64 u.jt.zero)∧w'.cell? ⟨g3,19,none⟩=some (.int .i64 u.jt.first)∧w'.cell? ⟨g3,20,none⟩=some (.int .i64 u.jt.high)∧w'.cell? ⟨g3,21,none⟩=some (.int .i64 u.jt.done)∧w'.cell? ⟨g3,22,none⟩=some (.int .i64 u.jt.spread)∧w'.cell? ⟨g3,23,none⟩=some (.int .i64 u.jt.trans)∧w'.cell? ⟨g3,24,none⟩=some (.slice A n c)∧w'.cell? ⟨g3,25,none⟩=some (.int .i64 u.jt.late)∧w'.cell? ⟨g3,26,none⟩=some (.int .i64 u.jt.twice)∧w'.cell? ⟨g3,27,none⟩=some (.int .i64 u.jt.played))
  (first|assumption|((try go_split_ands);refine zcv ?_ (fun B=>⟨zae B O,zae B N,zae B i,zae B g,zae B f,zae B d,zae B b,zae B Z,zae B Y,zae B X,zae B U,zae B T,zae B o,zae B p,zae B t,zae B v⟩);(with_reducible repeat first|assumption|exact Below.refl _ _|exact zak (by assumption) (by assumption)|refine Below.drew ?_|refine zaj ?_ _)))
  (first
   | (go_at_call 116;refine (E.out _ (by (try go_split_ands);first|assumption|exact Below.drew (Below.refl _ _))).mono ?_;rintro e w7 ⟨rfl,P⟩;have x:Below W.heap.size W w7:=zak P (by (try go_split_ands);first|assumption|exact Below.drew (Below.refl _ _))))
 all_goals
  go_upto_region 10 with fail
  refine zba (by assumption) (by assumption) ?_
  exact h.out _ _ x (Fr.mk rfl ⟨rfl,rfl,rfl,rfl,rfl,rfl,trivial⟩)
noncomputable def ar12r_code:Code:=((Tryz.f78.body.bind (findRegS 12)).getD .skip)
def VL.cnt (v:VL) (sq:Int):VL := { v with count:=v.count+1,least:=min v.least sq,most:=max v.most sq }
theorem zkx {Q:Exit→Act→World→Prop} {v:VL} (B:Blk W gW 86 (v.row gc).toArray) (hw:IntKind.i64.wrap (v.count+1)=v.count+1)
 (F:∀ (ch:_) (a:Act) (d:Tmp) (u:Value) (w:World),Q (.panic ch) (a.put (some d) u) w→Q (.panic ch) a w)
 (h:∀ (R:World) (T U V Y Z b c f g i j l m n p t x y z cO cM cL cK cJ cI cH:Value),Blk R gW 86 ((v.cnt sq).row gc).toArray→Chg [gW] W R→Q .normal ⟨#[.pointer (some ⟨gW,0,none⟩),s1,s2,s3,s4,s5,s6,s7,s8,s9,Jh, .int .i64 sq,Hz,Iq,Ox,Kc,Kb,Na,Jo,Nu,Mz,My,Mw,Mu,Mt,Ms,Mr,Mq,Mp,Mo,Ns,Nr,Nq,Np,Mn,Mm,Ml,Mk,Mj,Mi,Ka,Jz,Jy,Mh,Mg,Mf,Me,Mc,Mb,Ma,Lz,Ly,Lx,Lw,Jg,Nn,Lv,Lu,Nm,Nl,Nk,Nj,Ni,Lt,Ls,Lr,Lq,Lp,Jn,Lo,Ln,Lm,Ll,Lk,Lj,Li,Lh,Lg,Lf,Le,Ld,Lc,Lb,La,Kz,Ky,Kx,Kw,Kv,Ku,Kt,Ks,Kr,Kq,Jf,Jx,Jw,Je,Jv,Ju,Ci,Ch,Cg,Cf,Ce,Cq,Dm,Dl,Dk,Dj,Di,Dh,Er,Eq,Ep,Eo,En,Em,El,Ek,T,U,V,Y,Z,b,c,f,g,i,j,l,m,n,p,t,x,y,z,cO,cM,cL,cK,cJ,cI,cH,Ht,Hs,Hr,Hq,Hp,Ho,Hn,Hl,Hk,Hj,Hi,Hh,Hg,Hf,He,Hd,Hc,Hb,Ha,Gz,Gy,Gx,Gw,Gv,Gu,Gt,Gs,Gr,Gq,Gp,Gn,Gm,Gl,Gk,Gj,Gi,Gh,Gg,Gf,Ge,Gd,Gc,Gb,Ga,Fz,Fy,Fx,Fw,Fv,Fu,Fs,Fq,Wc,Wb,Wa,Vz,Vy,Vx,Vw,Vv,Vu,Vt,Vs,Vr,Vq,Vp,Vo,Vn,Vm,Vl,Vk,Vj,Vi,Vh,Vg,Vf,Ve,Vd,Vc],[]⟩ R):ar12r_code.wp Tryz.prog Q ⟨#[.pointer (some ⟨gW,0,none⟩),s1,s2,s3,s4,s5,s6,s7,s8,s9,Jh, .int .i64 sq,Hz,Iq,Ox,Kc,Kb,Na,Jo,Nu,Mz,My,Mw,Mu,Mt,Ms,Mr,Mq,Mp,Mo,Ns,Nr,Nq,Np,Mn,Mm,Ml,Mk,Mj,Mi,Ka,Jz,Jy,Mh,Mg,Mf,Me,Mc,Mb,Ma,Lz,Ly,Lx,Lw,Jg,Nn,Lv,Lu,Nm,Nl,Nk,Nj,Ni,Lt,Ls,Lr,Lq,Lp,Jn,Lo,Ln,Lm,Ll,Lk,Lj,Li,Lh,Lg,Lf,Le,Ld,Lc,Lb,La,Kz,Ky,Kx,Kw,Kv,Ku,Kt,Ks,Kr,Kq,Jf,Jx,Jw,Je,Jv,Ju,Ci,Ch,Cg,Cf,Ce,Cq,Dm,Dl,Dk,Dj,Di,Dh,Er,Eq,Ep,Eo,En,Em,El,Ek,Ej,Ei,Eh,Eg,Ef,Ee,Ed,Ec,Eb,Ea,Dz,Dy,Dx,Dw,Dv,Du,Dt,Ds,Dr,Io,In,Il,Ik,Ij,Ii,Ih,Ht,Hs,Hr,Hq,Hp,Ho,Hn,Hl,Hk,Hj,Hi,Hh,Hg,Hf,He,Hd,Hc,Hb,Ha,Gz,Gy,Gx,Gw,Gv,Gu,Gt,Gs,Gr,Gq,Gp,Gn,Gm,Gl,Gk,Gj,Gi,Gh,Gg,Gf,Ge,Gd,Gc,Gb,Ga,Fz,Fy,Fx,Fw,Fv,Fu,Fs,Fq,Wc,Wb,Wa,Vz,Vy,Vx,Vw,Vv,Vu,Vt,Vs,Vr,Vq,Vp,Vo,Vn,Vm,Vl,Vk,Vj,Vi,Vh,Vg,Vf,Ve,Vd,Vc],[]⟩ W:=by
 have hq:=Z9 h
 clear h
 conv=>arg 2;whnf
 refine wp_region_held_drew (S:=fun w'=>True) (by kernel_rfl) trivial (fun D => ?_)
 have I:Chg [gW] W W.drew:=Chg.drew (Chg.refl _ _)
 replace B:=B.drew
 generalize W.drew=X at *
 have O:=B.at 103 (.int .i64 v.count) rfl
 have N:=B.at 104 (.int .i64 v.least) rfl
 have P:=B.at 105 (.int .i64 v.most) rfl
 have C:=Z9 B
 clear B
 iterate 6
  refine tkM 29 (v:=?_) rfl rfl ?_ D ?_ (q9 F)
  rotate_left
  · (intro w Ac;clear Ac;go_simp;try with_reducible rfl)
  try simp only [ss9]
 refine tkB 8 rfl D ?_ (q9 F)
 try simp only [ss9]
 refine tkB 9 rfl D ?_ (q9 F)
 try simp only [ss9]
 refine tkB 10 rfl D ?_ (q9 F)
 try simp only [ss9]
 refine tkB 12 rfl D ?_ (q9 F)
 try simp only [ss9]
 refine tkB 14 rfl D ?_ (q9 F)
 try simp only [ss9]
 refine tkB 15 rfl D ?_ (q9 F)
 try simp only [ss9]
 refine tkB 16 rfl D ?_ (q9 F)
 try simp only [ss9]
 refine tkB 18 rfl D ?_ (q9 F)
 try simp only [ss9]
 refine wpAnyH_ready (rs:=[6,11,17]) (by kernel_rfl) (by simp) ?_
 refine AllReadyH.cons (o:=_) rfl (fun K A => ?_) (AllReadyH.cons (o:=_) rfl (fun K A => ?_) (AllReadyH.cons (o:=_) rfl (fun K A => ?_) AllReadyH.nil))
 · go_simp
   refine A.out _ _ trivial (fun D => ?_)
   clear A K
   try simp only [ss9]
   refine tkB 7 rfl D ?_ (q9 F)
   try simp only [ss9]
   refine rd2 11 17 (by kernel_rfl) rfl rfl (fun K A=>?_) fun K A=>?_
   · go_simp
     refine A.out _ _ trivial (fun D => ?_)
     clear A K
     try simp only [ss9]
     refine tkB 13 rfl D ?_ (q9 F)
     try simp only [ss9]
     refine rd1 17 (by kernel_rfl) rfl fun K A=>?_
     · go_simp
       refine A.out _ _ trivial (fun D => ?_)
       clear A K
       try simp only [ss9]
       refine tkB 19 rfl D ?_ (q9 F)
       try simp only [ss9]
       clear O N P
       refine tkB 20 rfl D ?_ (q9 F)
       try simp only [ss9]
       refine tkB 21 rfl D ?_ (q9 F)
       try simp only [ss9]
       refine rd1 22 (by kernel_rfl) rfl fun K A=>?_
       have J:=C.out.at 103 (.int .i64 v.count) rfl
       have M:=C.out.frozen 103
       have L:=C.out.lt
       go_simp
       obtain ⟨Y1,E⟩:=nm9 (X.setCell ⟨gW,103,none⟩ (.int .i64 (v.count+1)))
       have G:OnlyB gW X Y1:=by rw [E];exact OnlyB.setCell _ _ _ _
       have H:Blk Y1 gW 86 (VL.row ({ v with count:=v.count+1 }) gc).toArray:=by rw [E];exact C.out.set_ 103 _
       rw [← E]
       replace I:=Chg.trans I (Chg.of_only G (S:=[gW]) (by simp))
       replace C:=Z9 H
       clear E G H J M L
       refine A.out _ _ trivial (fun D => ?_)
       clear A K
       try simp only [ss9]
       refine tkB 23 rfl D ?_ (q9 F)
       try simp only [ss9]
       refine tkB 24 rfl D ?_ (q9 F)
       try simp only [ss9]
       refine rd1 25 (by kernel_rfl) rfl fun K A=>?_
       have J:=C.out.at 104 (.int .i64 v.least) rfl
       have M:=C.out.frozen 104
       have L:=C.out.lt
       go_simp
       obtain ⟨Y2,E⟩:=nm9 (Y1.setCell ⟨gW,104,none⟩ (.int .i64 (min v.least sq)))
       have G:OnlyB gW Y1 Y2:=by rw [E];exact OnlyB.setCell _ _ _ _
       have H:Blk Y2 gW 86 (VL.row ({ v with count:=v.count+1,least:=min v.least sq }) gc).toArray:=by rw [E];exact C.out.set_ 104 _
       rw [← E]
       replace I:=Chg.trans I (Chg.of_only G (S:=[gW]) (by simp))
       replace C:=Z9 H
       clear E G H J M L
       refine A.out _ _ trivial (fun D => ?_)
       clear A K
       try simp only [ss9]
       refine tkB 26 rfl D ?_ (q9 F)
       try simp only [ss9]
       refine tkB 27 rfl D ?_ (q9 F)
       try simp only [ss9]
       refine rd1 28 (by kernel_rfl) rfl fun K A=>?_
       have J:=C.out.at 105 (.int .i64 v.most) rfl
       have M:=C.out.frozen 105
       have L:=C.out.lt
       go_simp
       obtain ⟨Y3,E⟩:=nm9 (Y2.setCell ⟨gW,105,none⟩ (.int .i64 (max v.most sq)))
       have G:OnlyB gW Y2 Y3:=by rw [E];exact OnlyB.setCell _ _ _ _
       have H:Blk Y3 gW 86 (VL.row (v.cnt sq) gc).toArray:=by rw [E];exact C.out.set_ 105 _
       rw [← E]
       replace I:=Chg.trans I (Chg.of_only G (S:=[gW]) (by simp))
       replace C:=Z9 H
       clear E G H J M L
       refine A.out _ _ trivial (fun D => ?_)
       clear A K
       try simp only [ss9]
       refine wpAnyH_done (by kernel_rfl) ?_ _
       exact hq.out _ _ _ _ _ _ _ _ _ _ _ _ _ _ _ _ _ _ _ _ _ _ _ _ _ _ _ C.out I
   · go_simp
     refine A.out _ _ trivial (fun D => ?_)
     clear A K
     try simp only [ss9]
     refine tkB 19 rfl D ?_ (q9 F)
     try simp only [ss9]
     refine rd1 11 (by kernel_rfl) rfl fun K A=>?_
     · go_simp
       refine A.out _ _ trivial (fun D => ?_)
       clear A K
       try simp only [ss9]
       refine tkB 13 rfl D ?_ (q9 F)
       try simp only [ss9]
       clear O N P
       refine tkB 20 rfl D ?_ (q9 F)
       try simp only [ss9]
       refine tkB 21 rfl D ?_ (q9 F)
       try simp only [ss9]
       refine rd1 22 (by kernel_rfl) rfl fun K A=>?_
       have J:=C.out.at 103 (.int .i64 v.count) rfl
       have M:=C.out.frozen 103
       have L:=C.out.lt
       go_simp
       obtain ⟨Y1,E⟩:=nm9 (X.setCell ⟨gW,103,none⟩ (.int .i64 (v.count+1)))
       have G:OnlyB gW X Y1:=by rw [E];exact OnlyB.setCell _ _ _ _
       have H:Blk Y1 gW 86 (VL.row ({ v with count:=v.count+1 }) gc).toArray:=by rw [E];exact C.out.set_ 103 _
       rw [← E]
       replace I:=Chg.trans I (Chg.of_only G (S:=[gW]) (by simp))
       replace C:=Z9 H
       clear E G H J M L
       refine A.out _ _ trivial (fun D => ?_)
       clear A K
       try simp only [ss9]
       refine tkB 23 rfl D ?_ (q9 F)
       try simp only [ss9]
       refine tkB 24 rfl D ?_ (q9 F)
       try simp only [ss9]
       refine rd1 25 (by kernel_rfl) rfl fun K A=>?_
       have J:=C.out.at 104 (.int .i64 v.least) rfl
       have M:=C.out.frozen 104
       have L:=C.out.lt
       go_simp
       obtain ⟨Y2,E⟩:=nm9 (Y1.setCell ⟨gW,104,none⟩ (.int .i64 (min v.least sq)))
       have G:OnlyB gW Y1 Y2:=by rw [E];exact OnlyB.setCell _ _ _ _
       have H:Blk Y2 gW 86 (VL.row ({ v with count:=v.count+1,least:=min v.least sq }) gc).toArray:=by rw [E];exact C.out.set_ 104 _
       rw [← E]
       replace I:=Chg.trans I (Chg.of_only G (S:=[gW]) (by simp))
       replace C:=Z9 H
       clear E G H J M L
       refine A.out _ _ trivial (fun D => ?_)
       clear A K
       try simp only [ss9]
       refine tkB 26 rfl D ?_ (q9 F)
       try simp only [ss9]
       refine tkB 27 rfl D ?_ (q9 F)
       try simp only [ss9]
       refine rd1 28 (by kernel_rfl) rfl fun K A=>?_
       have J:=C.out.at 105 (.int .i64 v.most) rfl
       have M:=C.out.frozen 105
       have L:=C.out.lt
       go_simp
       obtain ⟨Y3,E⟩:=nm9 (Y2.setCell ⟨gW,105,none⟩ (.int .i64 (max v.most sq)))
       have G:OnlyB gW Y2 Y3:=by rw [E];exact OnlyB.setCell _ _ _ _
       have H:Blk Y3 gW 86 (VL.row (v.cnt sq) gc).toArray:=by rw [E];exact C.out.set_ 105 _
       rw [← E]
       replace I:=Chg.trans I (Chg.of_only G (S:=[gW]) (by simp))
       replace C:=Z9 H
       clear E G H J M L
       refine A.out _ _ trivial (fun D => ?_)
       clear A K
       try simp only [ss9]
       refine wpAnyH_done (by kernel_rfl) ?_ _
       exact hq.out _ _ _ _ _ _ _ _ _ _ _ _ _ _ _ _ _ _ _ _ _ _ _ _ _ _ _ C.out I
 · go_simp
   refine A.out _ _ trivial (fun D => ?_)
   clear A K
   try simp only [ss9]
   refine tkB 13 rfl D ?_ (q9 F)
   try simp only [ss9]
   refine rd2 6 17 (by kernel_rfl) rfl rfl (fun K A=>?_) fun K A=>?_
   · go_simp
     refine A.out _ _ trivial (fun D => ?_)
     clear A K
     try simp only [ss9]
     refine tkB 7 rfl D ?_ (q9 F)
     try simp only [ss9]
     refine rd1 17 (by kernel_rfl) rfl fun K A=>?_
     · go_simp
       refine A.out _ _ trivial (fun D => ?_)
       clear A K
       try simp only [ss9]
       refine tkB 19 rfl D ?_ (q9 F)
       try simp only [ss9]
       clear O N P
       refine tkB 20 rfl D ?_ (q9 F)
       try simp only [ss9]
       refine tkB 21 rfl D ?_ (q9 F)
       try simp only [ss9]
       refine rd1 22 (by kernel_rfl) rfl fun K A=>?_
       have J:=C.out.at 103 (.int .i64 v.count) rfl
       have M:=C.out.frozen 103
       have L:=C.out.lt
       go_simp
       obtain ⟨Y1,E⟩:=nm9 (X.setCell ⟨gW,103,none⟩ (.int .i64 (v.count+1)))
       have G:OnlyB gW X Y1:=by rw [E];exact OnlyB.setCell _ _ _ _
       have H:Blk Y1 gW 86 (VL.row ({ v with count:=v.count+1 }) gc).toArray:=by rw [E];exact C.out.set_ 103 _
       rw [← E]
       replace I:=Chg.trans I (Chg.of_only G (S:=[gW]) (by simp))
       replace C:=Z9 H
       clear E G H J M L
       refine A.out _ _ trivial (fun D => ?_)
       clear A K
       try simp only [ss9]
       refine tkB 23 rfl D ?_ (q9 F)
       try simp only [ss9]
       refine tkB 24 rfl D ?_ (q9 F)
       try simp only [ss9]
       refine rd1 25 (by kernel_rfl) rfl fun K A=>?_
       have J:=C.out.at 104 (.int .i64 v.least) rfl
       have M:=C.out.frozen 104
       have L:=C.out.lt
       go_simp
       obtain ⟨Y2,E⟩:=nm9 (Y1.setCell ⟨gW,104,none⟩ (.int .i64 (min v.least sq)))
       have G:OnlyB gW Y1 Y2:=by rw [E];exact OnlyB.setCell _ _ _ _
       have H:Blk Y2 gW 86 (VL.row ({ v with count:=v.count+1,least:=min v.least sq }) gc).toArray:=by rw [E];exact C.out.set_ 104 _
       rw [← E]
       replace I:=Chg.trans I (Chg.of_only G (S:=[gW]) (by simp))
       replace C:=Z9 H
       clear E G H J M L
       refine A.out _ _ trivial (fun D => ?_)
       clear A K
       try simp only [ss9]
       refine tkB 26 rfl D ?_ (q9 F)
       try simp only [ss9]
       refine tkB 27 rfl D ?_ (q9 F)
       try simp only [ss9]
       refine rd1 28 (by kernel_rfl) rfl fun K A=>?_
       have J:=C.out.at 105 (.int .i64 v.most) rfl
       have M:=C.out.frozen 105
       have L:=C.out.lt
       go_simp
       obtain ⟨Y3,E⟩:=nm9 (Y2.setCell ⟨gW,105,none⟩ (.int .i64 (max v.most sq)))
       have G:OnlyB gW Y2 Y3:=by rw [E];exact OnlyB.setCell _ _ _ _
       have H:Blk Y3 gW 86 (VL.row (v.cnt sq) gc).toArray:=by rw [E];exact C.out.set_ 105 _
       rw [← E]
       replace I:=Chg.trans I (Chg.of_only G (S:=[gW]) (by simp))
       replace C:=Z9 H
       clear E G H J M L
       refine A.out _ _ trivial (fun D => ?_)
       clear A K
       try simp only [ss9]
       refine wpAnyH_done (by kernel_rfl) ?_ _
       exact hq.out _ _ _ _ _ _ _ _ _ _ _ _ _ _ _ _ _ _ _ _ _ _ _ _ _ _ _ C.out I
   · go_simp
     refine A.out _ _ trivial (fun D => ?_)
     clear A K
     try simp only [ss9]
     refine tkB 19 rfl D ?_ (q9 F)
     try simp only [ss9]
     refine rd1 6 (by kernel_rfl) rfl fun K A=>?_
     · go_simp
       refine A.out _ _ trivial (fun D => ?_)
       clear A K
       try simp only [ss9]
       refine tkB 7 rfl D ?_ (q9 F)
       try simp only [ss9]
       clear O N P
       refine tkB 20 rfl D ?_ (q9 F)
       try simp only [ss9]
       refine tkB 21 rfl D ?_ (q9 F)
       try simp only [ss9]
       refine rd1 22 (by kernel_rfl) rfl fun K A=>?_
       have J:=C.out.at 103 (.int .i64 v.count) rfl
       have M:=C.out.frozen 103
       have L:=C.out.lt
       go_simp
       obtain ⟨Y1,E⟩:=nm9 (X.setCell ⟨gW,103,none⟩ (.int .i64 (v.count+1)))
       have G:OnlyB gW X Y1:=by rw [E];exact OnlyB.setCell _ _ _ _
       have H:Blk Y1 gW 86 (VL.row ({ v with count:=v.count+1 }) gc).toArray:=by rw [E];exact C.out.set_ 103 _
       rw [← E]
       replace I:=Chg.trans I (Chg.of_only G (S:=[gW]) (by simp))
       replace C:=Z9 H
       clear E G H J M L
       refine A.out _ _ trivial (fun D => ?_)
       clear A K
       try simp only [ss9]
       refine tkB 23 rfl D ?_ (q9 F)
       try simp only [ss9]
       refine tkB 24 rfl D ?_ (q9 F)
       try simp only [ss9]
       refine rd1 25 (by kernel_rfl) rfl fun K A=>?_
       have J:=C.out.at 104 (.int .i64 v.least) rfl
       have M:=C.out.frozen 104
       have L:=C.out.lt
       go_simp
       obtain ⟨Y2,E⟩:=nm9 (Y1.setCell ⟨gW,104,none⟩ (.int .i64 (min v.least sq)))
       have G:OnlyB gW Y1 Y2:=by rw [E];exact OnlyB.setCell _ _ _ _
       have H:Blk Y2 gW 86 (VL.row ({ v with count:=v.count+1,least:=min v.least sq }) gc).toArray:=by rw [E];exact C.out.set_ 104 _
       rw [← E]
       replace I:=Chg.trans I (Chg.of_only G (S:=[gW]) (by simp))
       replace C:=Z9 H
       clear E G H J M L
       refine A.out _ _ trivial (fun D => ?_)
       clear A K
       try simp only [ss9]
       refine tkB 26 rfl D ?_ (q9 F)
       try simp only [ss9]
       refine tkB 27 rfl D ?_ (q9 F)
       try simp only [ss9]
       refine rd1 28 (by kernel_rfl) rfl fun K A=>?_
       have J:=C.out.at 105 (.int .i64 v.most) rfl
       have M:=C.out.frozen 105
       have L:=C.out.lt
       go_simp
       obtain ⟨Y3,E⟩:=nm9 (Y2.setCell ⟨gW,105,none⟩ (.int .i64 (max v.most sq)))
       have G:OnlyB gW Y2 Y3:=by rw [E];exact OnlyB.setCell _ _ _ _
       have H:Blk Y3 gW 86 (VL.row (v.cnt sq) gc).toArray:=by rw [E];exact C.out.set_ 105 _
       rw [← E]
       replace I:=Chg.trans I (Chg.of_only G (S:=[gW]) (by simp))
       replace C:=Z9 H
       clear E G H J M L
       refine A.out _ _ trivial (fun D => ?_)
       clear A K
       try simp only [ss9]
       refine wpAnyH_done (by kernel_rfl) ?_ _
       exact hq.out _ _ _ _ _ _ _ _ _ _ _ _ _ _ _ _ _ _ _ _ _ _ _ _ _ _ _ C.out I
 · go_simp
   refine A.out _ _ trivial (fun D => ?_)
   clear A K
   try simp only [ss9]
   refine tkB 19 rfl D ?_ (q9 F)
   try simp only [ss9]
   refine rd2 6 11 (by kernel_rfl) rfl rfl (fun K A=>?_) fun K A=>?_
   · go_simp
     refine A.out _ _ trivial (fun D => ?_)
     clear A K
     try simp only [ss9]
     refine tkB 7 rfl D ?_ (q9 F)
     try simp only [ss9]
     refine rd1 11 (by kernel_rfl) rfl fun K A=>?_
     · go_simp
       refine A.out _ _ trivial (fun D => ?_)
       clear A K
       try simp only [ss9]
       refine tkB 13 rfl D ?_ (q9 F)
       try simp only [ss9]
       clear O N P
       refine tkB 20 rfl D ?_ (q9 F)
       try simp only [ss9]
       refine tkB 21 rfl D ?_ (q9 F)
       try simp only [ss9]
       refine rd1 22 (by kernel_rfl) rfl fun K A=>?_
       have J:=C.out.at 103 (.int .i64 v.count) rfl
       have M:=C.out.frozen 103
       have L:=C.out.lt
       go_simp
       obtain ⟨Y1,E⟩:=nm9 (X.setCell ⟨gW,103,none⟩ (.int .i64 (v.count+1)))
       have G:OnlyB gW X Y1:=by rw [E];exact OnlyB.setCell _ _ _ _
       have H:Blk Y1 gW 86 (VL.row ({ v with count:=v.count+1 }) gc).toArray:=by rw [E];exact C.out.set_ 103 _
       rw [← E]
       replace I:=Chg.trans I (Chg.of_only G (S:=[gW]) (by simp))
       replace C:=Z9 H
       clear E G H J M L
       refine A.out _ _ trivial (fun D => ?_)
       clear A K
       try simp only [ss9]
       refine tkB 23 rfl D ?_ (q9 F)
       try simp only [ss9]
       refine tkB 24 rfl D ?_ (q9 F)
       try simp only [ss9]
       refine rd1 25 (by kernel_rfl) rfl fun K A=>?_
       have J:=C.out.at 104 (.int .i64 v.least) rfl
       have M:=C.out.frozen 104
       have L:=C.out.lt
       go_simp
       obtain ⟨Y2,E⟩:=nm9 (Y1.setCell ⟨gW,104,none⟩ (.int .i64 (min v.least sq)))
       have G:OnlyB gW Y1 Y2:=by rw [E];exact OnlyB.setCell _ _ _ _
       have H:Blk Y2 gW 86 (VL.row ({ v with count:=v.count+1,least:=min v.least sq }) gc).toArray:=by rw [E];exact C.out.set_ 104 _
       rw [← E]
       replace I:=Chg.trans I (Chg.of_only G (S:=[gW]) (by simp))
       replace C:=Z9 H
       clear E G H J M L
       refine A.out _ _ trivial (fun D => ?_)
       clear A K
       try simp only [ss9]
       refine tkB 26 rfl D ?_ (q9 F)
       try simp only [ss9]
       refine tkB 27 rfl D ?_ (q9 F)
       try simp only [ss9]
       refine rd1 28 (by kernel_rfl) rfl fun K A=>?_
       have J:=C.out.at 105 (.int .i64 v.most) rfl
       have M:=C.out.frozen 105
       have L:=C.out.lt
       go_simp
       obtain ⟨Y3,E⟩:=nm9 (Y2.setCell ⟨gW,105,none⟩ (.int .i64 (max v.most sq)))
       have G:OnlyB gW Y2 Y3:=by rw [E];exact OnlyB.setCell _ _ _ _
       have H:Blk Y3 gW 86 (VL.row (v.cnt sq) gc).toArray:=by rw [E];exact C.out.set_ 105 _
       rw [← E]
       replace I:=Chg.trans I (Chg.of_only G (S:=[gW]) (by simp))
       replace C:=Z9 H
       clear E G H J M L
       refine A.out _ _ trivial (fun D => ?_)
       clear A K
       try simp only [ss9]
       refine wpAnyH_done (by kernel_rfl) ?_ _
       exact hq.out _ _ _ _ _ _ _ _ _ _ _ _ _ _ _ _ _ _ _ _ _ _ _ _ _ _ _ C.out I
   · go_simp
     refine A.out _ _ trivial (fun D => ?_)
     clear A K
     try simp only [ss9]
     refine tkB 13 rfl D ?_ (q9 F)
     try simp only [ss9]
     refine rd1 6 (by kernel_rfl) rfl fun K A=>?_
     · go_simp
       refine A.out _ _ trivial (fun D => ?_)
       clear A K
       try simp only [ss9]
       refine tkB 7 rfl D ?_ (q9 F)
       try simp only [ss9]
       clear O N P
       refine tkB 20 rfl D ?_ (q9 F)
       try simp only [ss9]
       refine tkB 21 rfl D ?_ (q9 F)
       try simp only [ss9]
       refine rd1 22 (by kernel_rfl) rfl fun K A=>?_
       have J:=C.out.at 103 (.int .i64 v.count) rfl
       have M:=C.out.frozen 103
       have L:=C.out.lt
       go_simp
       obtain ⟨Y1,E⟩:=nm9 (X.setCell ⟨gW,103,none⟩ (.int .i64 (v.count+1)))
       have G:OnlyB gW X Y1:=by rw [E];exact OnlyB.setCell _ _ _ _
       have H:Blk Y1 gW 86 (VL.row ({ v with count:=v.count+1 }) gc).toArray:=by rw [E];exact C.out.set_ 103 _
       rw [← E]
       replace I:=Chg.trans I (Chg.of_only G (S:=[gW]) (by simp))
       replace C:=Z9 H
       clear E G H J M L
       refine A.out _ _ trivial (fun D => ?_)
       clear A K
       try simp only [ss9]
       refine tkB 23 rfl D ?_ (q9 F)
       try simp only [ss9]
       refine tkB 24 rfl D ?_ (q9 F)
       try simp only [ss9]
       refine rd1 25 (by kernel_rfl) rfl fun K A=>?_
       have J:=C.out.at 104 (.int .i64 v.least) rfl
       have M:=C.out.frozen 104
       have L:=C.out.lt
       go_simp
       obtain ⟨Y2,E⟩:=nm9 (Y1.setCell ⟨gW,104,none⟩ (.int .i64 (min v.least sq)))
       have G:OnlyB gW Y1 Y2:=by rw [E];exact OnlyB.setCell _ _ _ _
       have H:Blk Y2 gW 86 (VL.row ({ v with count:=v.count+1,least:=min v.least sq }) gc).toArray:=by rw [E];exact C.out.set_ 104 _
       rw [← E]
       replace I:=Chg.trans I (Chg.of_only G (S:=[gW]) (by simp))
       replace C:=Z9 H
       clear E G H J M L
       refine A.out _ _ trivial (fun D => ?_)
       clear A K
       try simp only [ss9]
       refine tkB 26 rfl D ?_ (q9 F)
       try simp only [ss9]
       refine tkB 27 rfl D ?_ (q9 F)
       try simp only [ss9]
       refine rd1 28 (by kernel_rfl) rfl fun K A=>?_
       have J:=C.out.at 105 (.int .i64 v.most) rfl
       have M:=C.out.frozen 105
       have L:=C.out.lt
       go_simp
       obtain ⟨Y3,E⟩:=nm9 (Y2.setCell ⟨gW,105,none⟩ (.int .i64 (max v.most sq)))
       have G:OnlyB gW Y2 Y3:=by rw [E];exact OnlyB.setCell _ _ _ _
       have H:Blk Y3 gW 86 (VL.row (v.cnt sq) gc).toArray:=by rw [E];exact C.out.set_ 105 _
       rw [← E]
       replace I:=Chg.trans I (Chg.of_only G (S:=[gW]) (by simp))
       replace C:=Z9 H
       clear E G H J M L
       refine A.out _ _ trivial (fun D => ?_)
       clear A K
       try simp only [ss9]
       refine wpAnyH_done (by kernel_rfl) ?_ _
       exact hq.out _ _ _ _ _ _ _ _ _ _ _ _ _ _ _ _ _ _ _ _ _ _ _ _ _ _ _ C.out I
noncomputable def ar12_code:Code:=((Tryz.f78.body.bind (fromReg 12)).getD .skip)
def ArN (Sw:List Nat) (gW gc:Nat) (v:VL) (ds:List (Int×Int)) (W:World) (e:Ending) (w':World):Prop:=e = .returned (.tuple #[])∧∃ (A':Option Addr) (c':Nat),Blk w' gW 86 (VL.row { v with dA:=A',dc:=c',ds:=ds } gc).toArray∧LnM w' Sw gW { v with dA:=A',dc:=c',ds:=ds } ∧ Chg [gW] W w'
def Nt (v:VL) (sq pt:Int):Prop:=sq≤v.done∨(∃ p∈v.ds,p.2=sq)∨pt≤v.now∨v.now+120000<pt∨200≤v.ds.length
theorem zsq {v:VL} {R:Ending→World→Prop} (n:Chg [gW] W0 W) (hB:Blk W gW 86 (v.row gc).toArray) (K:LnM W Sw gW v) (hl:v.ds.length≤1000) (Z:∀ p∈v.ds,p.2≠sq) (h1:v.now<pt) (h2:v.done<sq) (c0:0≤v.count) (c1:v.count≤1000000) (g:∀ e w',ArN Sw gW gc (v.cnt sq) (insD v.ds (pt,sq)) W0 e w'→R e w') (a:Act) (f:Fr 225 [(0, .pointer (some ⟨gW,0,none⟩)),(8, .int .u8 1),(11, .int .i64 sq),(12, .int .i64 pt)] a):firstWp Tryz.prog ar12_code (bodyPost Tryz.prog Tryz.f78 R) a W:=by
 obtain ⟨s,rfl,z⟩:=f
 simp only [rl9]
 obtain ⟨M,L,V,P,_⟩:=z
 rw [M,L,V,P]
 have hw:IntKind.i64.wrap (v.count+1)=v.count+1:=by simp only [IntKind.wrap,IntKind.bits,IntKind.signed];simp;omega
 have Ax:=hB.lt
 clear M L V P
 refine zas ?_
 intro _ _
 go_upto_region 12 with fail
 refine zkx (v:=v) (gc:=gc) hB hw ?_ ?_
 · intro ch a d u w h;exact h
 intro b dJ dI dH dG dF dE dD dC dB cZ cX cW cV cU cT cS cR cQ cP cO cM cL cK cJ cI cH A E
 have o:=A.at 97 (.int .i64 v.now) rfl
 have c:=A.at 98 (.int .i64 v.done) rfl
 have X:=A.at 100 (.slice v.dA v.ds.length v.dc) rfl
 have y:=A.at 110 (.bool false) rfl
 have F:∀ x ∈ [gW],x ∈ [gW]:=fun _ h=>h
 have D:=K.chg E F
 have t1:¬pt≤v.now:=by omega
 have t2:¬sq≤v.done:=by omega
 have I:=Z9 (zsp gW 0 _ v.dA v.dc (pt,sq) v.ds b A X D.due.1 D.cap hl Z)
 have H:=Z9 A
 have j:=Z9 E
 have O:=Z9 D
 have J:=Z9 F
 have Q:=A.lt
 clear A E hB D F K X Z
 go_upto_region 14 with fail
 go_wp2_with fail
 refine I.out.mono ?_
 rintro e w2 ⟨A',c',rfl,l,U,T,G⟩
 have B:Blk w2 gW 86 (VL.row { v.cnt sq with dA:=A',dc:=c',ds:=insD v.ds (pt,sq) } gc).toArray:=U
 have Yw:=B.at 110 (.bool false) rfl
 have Ob:=B.frozen 110
 have Fa:=B.lt
 have C:=O.out.chg G J.out
 have N:LnM w2 Sw gW { v.cnt sq with dA:=A',dc:=c',ds:=insD v.ds (pt,sq) } := ⟨l,C.gS,C.lt,RowsAv.of_new T O.out.lt,C.sent,C.ints⟩
 have t:=Z9 B
 have i:=Z9 N
 have m:=Z9 G
 clear U B T G C N o c y I H t1 t2
 go_wp2_with fail
 try go_end0
 have Y:Chg [gW] w2 (w2.setCell ⟨gW,110,none⟩ (.bool false)):=Chg.of_only (OnlyB.setCell _ _ _ _) (by simp)
 exact g _ _ ⟨rfl,A',c',t.out.set_ 110 _,i.out.chg Y J.out,n.trans ((j.out.trans m.out).trans Y)⟩
theorem zsr {v:VL} {R:Ending→World→Prop} (f:Chg [gW] W0 W) (hB:Blk W gW 86 (v.row gc).toArray) (O:LnM W Sw gW v) (hl:v.ds.length≤1000) (hv:vd≠1) (N:Nt v sq pt) (n0:0≤v.now) (n1:v.now≤100000000) (c0:0≤v.count) (c1:v.count≤1000000) (M:∀ e w',ArN Sw gW gc (v.cnt sq) v.ds W0 e w'→R e w') (a:Act) (b:Fr 225 [(0, .pointer (some ⟨gW,0,none⟩)),(8, .int .u8 vd),(11, .int .i64 sq),(12, .int .i64 pt)] a):firstWp Tryz.prog ar12_code (bodyPost Tryz.prog Tryz.f78 R) a W:=by
 obtain ⟨s,rfl,i⟩:=b
 simp only [rl9]
 obtain ⟨T,P,V,U,_⟩:=i
 rw [T,P,V,U]
 have hw:IntKind.i64.wrap (v.count+1)=v.count+1:=by simp only [IntKind.wrap,IntKind.bits,IntKind.signed];simp;omega
 have Ax:=hB.lt
 clear T P V U
 refine zas ?_
 intro _ _
 go_upto_region 12 with fail
 refine zkx (v:=v) (gc:=gc) hB hw ?_ ?_
 · intro ch a d u w h;exact h
 intro E z Q dH dG dF dE dD dC dB cZ cX cW cV cU cT cS cR cQ cP cO cM cL cK cJ cI cH A I
 have Pm:=A.at 97 (.int .i64 v.now) rfl
 have m:=A.at 98 (.int .i64 v.done) rfl
 have g:=A.at 100 (.slice v.dA v.ds.length v.dc) rfl
 have Bi:=A.at 110 (.bool false) rfl
 have K:∀ x ∈ [gW],x ∈ [gW]:=fun _ h=>h
 have J:=O.chg I K
 have Jp:(vd==1)=false:=by simpa using hv
 have j:decide (vd=1)=false:=decide_eq_false hv
 have Ua:IntKind.i64.wrap (v.now+120000)=v.now+120000:=by simp only [IntKind.wrap,IntKind.bits,IntKind.signed];simp;omega
 have D:=Z9 (zpg gW sq v.dA v.dc v.ds E g J.due.1 hl)
 have y:=A.lt
 have Ob:=A.frozen 110
 have L:Chg [gW] E (E.setCell ⟨gW,110,none⟩ (.bool false)):=Chg.of_only (OnlyB.setCell _ _ _ _) (by simp)
 have B:=J.chg L K
 have C:=Z9 (M (.returned (.tuple #[])) _ ⟨rfl,v.dA,v.dc,A.set_ 110 (.bool false),(⟨B.cap,B.gS,B.lt,B.due,B.sent,B.ints⟩:LnM _ Sw gW { v.cnt sq with dA:=v.dA,dc:=v.dc,ds:=v.ds }),f.trans (I.trans L)⟩)
 have c:=Z9 N
 clear A I hB J B K O L N M
 by_cases k1:sq≤v.done
 · have t1:¬v.done<sq:=by omega
   have t2:decide (v.done<sq)=false:=decide_eq_false t1
   go_upto_region 15 with fail
   go_wp2_with fail
   try go_end0
   exact C.out
 have t1:v.done<sq:=by omega
 have t2:decide (v.done<sq)=true:=decide_eq_true t1
 by_cases H:(v.ds.any fun d=>decide (d.2=sq))=true
 · go_upto_region 15 with fail
   go_wp2_with fail
   refine D.out.mono ?_
   rintro e w2 ⟨rfl,rfl⟩
   rw [H]
   go_wp2_with fail
   try go_end0
   exact C.out
 have G:(v.ds.any fun d=>decide (d.2=sq))=false:=eq_false_of_ne_true H
 by_cases t:pt≤v.now
 · have t3:¬v.now<pt:=by omega
   have Z:decide (v.now<pt)=false:=decide_eq_false t3
   go_upto_region 15 with fail
   go_wp2_with fail
   refine D.out.mono ?_
   rintro e w2 ⟨rfl,rfl⟩
   rw [G]
   go_wp2_with fail
   try go_end0
   exact C.out
 have t3:v.now<pt:=by omega
 have Z:decide (v.now<pt)=true:=decide_eq_true t3
 by_cases o:v.now+120000<pt
 · have F:¬pt≤v.now+120000:=by omega
   have Y:decide (pt≤v.now+120000)=false:=decide_eq_false F
   go_upto_region 15 with fail
   go_wp2_with fail
   refine D.out.mono ?_
   rintro e w2 ⟨rfl,rfl⟩
   rw [G]
   go_wp2_with fail
   try go_end0
   exact C.out
 have F:pt≤v.now+120000:=by omega
 have Y:decide (pt≤v.now+120000)=true:=decide_eq_true F
 have n:200≤v.ds.length:=by
  rcases c.out with h|⟨p,hp,h⟩|h|h|h
  · omega
  · exact absurd (List.any_eq_true.2 ⟨p,hp,decide_eq_true h⟩) H
  · omega
  · omega
  · exact h
 have X:¬(v.ds.length:Int)<200:=by omega
 have l:decide ((v.ds.length:Int)<200)=false:=decide_eq_false X
 go_upto_region 15 with fail
 go_wp2_with fail
 refine D.out.mono ?_
 rintro e w2 ⟨rfl,rfl⟩
 rw [G]
 go_wp2_with fail
 try go_end0
 exact C.out
def VL.beg (v:VL) (sq:Int):VL:=if v.count=0 then { v with least:=sq,most:=sq } else v
def dsN (v:VL) (vd sq pt:Int):List (Int×Int):=if vd=1 then insD v.ds (pt,sq) else v.ds
def ArP (v:VL) (vd sq pt:Int):Prop:=(vd=1∧(∀ p∈v.ds,p.2≠sq)∧v.now<pt∧v.done<sq)∨(vd≠1∧Nt v sq pt)
theorem zwa {v:VL} {R:Ending→World→Prop} (T:Chg [gW] W0 W) (hB:Blk W gW 86 (v.row gc).toArray) (L:LnM W Sw gW v) (hl:v.ds.length≤1000) (K:ArP v vd sq pt) (n0:0≤v.now) (n1:v.now≤100000000) (c0:0≤v.count) (c1:v.count≤1000000) (H:∀ e w',ArN Sw gW gc ((v.beg sq).cnt sq) (dsN v vd sq pt) W0 e w'→R e w') (a:Act) (g:Fr 225 [(0, .pointer (some ⟨gW,0,none⟩)),(8, .int .u8 vd),(11, .int .i64 sq),(12, .int .i64 pt)] a):firstWp Tryz.prog ar10_code (bodyPost Tryz.prog Tryz.f78 R) a W:=by
 have F:∀ (v2:VL) (W2:World) (E:Act),v2=v.beg sq→Chg [gW] W0 W2→Blk W2 gW 86 (v2.row gc).toArray→LnM W2 Sw gW v2→Fr 225 [(0, .pointer (some ⟨gW,0,none⟩)),(8, .int .u8 vd),(11, .int .i64 sq),(12, .int .i64 pt)] E→firstWp Tryz.prog ar12_code (bodyPost Tryz.prog Tryz.f78 R) E W2:=by
  intro v2 W2 E X J b P U
  have C:v2.now=v.now∧v2.done=v.done∧v2.ds=v.ds∧v2.count=v.count:=by rw [X];unfold VL.beg;split<;>exact ⟨rfl,rfl,rfl,rfl⟩
  obtain ⟨C,N,B,I⟩:=C
  rw [← X] at H
  rcases K with ⟨rfl,p1,G,f⟩|⟨p1,G⟩
  · refine zsq J b P (by rw [B];exact hl) (by rw [B];exact p1) (by rw [C];exact G) (by rw [N];exact f) (by rw [I];exact c0) (by rw [I];exact c1) (fun e w' D=>H e w' ?_) E U
    rw [B] at D
    unfold dsN
    rw [if_pos rfl]
    exact D
  · refine zsr J b P (by rw [B];exact hl) p1 (by unfold Nt at G ⊢; rw [C,N,B];exact G) (by rw [C];exact n0) (by rw [C];exact n1) (by rw [I];exact c0) (by rw [I];exact c1) (fun e w' D=>H e w' ?_) E U
    rw [B] at D
    unfold dsN
    rw [if_neg p1]
    exact D
 have F:=Z9 F
 obtain ⟨s,rfl,j⟩:=g
 simp only [rl9]
 obtain ⟨O,M,c,V,_⟩:=j
 rw [O,M,c,V]
 have i:=hB.at 103 (.int .i64 v.count) rfl
 have l:=hB.at 104 (.int .i64 v.least) rfl
 have o:=hB.at 105 (.int .i64 v.most) rfl
 have m:=hB.frozen 104
 have n:=hB.frozen 105
 have p:=hB.lt
 have Z:=Z9 hB
 have Y:=Z9 L
 clear hB L K H O M c V
 refine zbd ?_
 intro _ _ _ _
 by_cases hc:v.count=0
 · rw [hc] at i
   go_upto_region 12 with fail
   refine zao (by assumption) ?_
   have e : { v with least:=sq,most:=sq } = v.beg sq:=by unfold VL.beg;rw [if_pos hc]
   have d:=(Chg.of_only (OnlyB.setCell W gW 104 (.int .i64 sq)) (S:=[gW]) (by simp)).trans (Chg.of_only (OnlyB.setCell _ gW 105 (.int .i64 sq)) (by simp))
   have A:=Y.out.chg d (fun _ h=>h)
   exact F.out _ _ _ e (T.trans d) ((Z.out.set_ 104 _).set_ 105 _) ⟨A.cap,A.gS,A.lt,A.due,A.sent,A.ints⟩ (Fr.mk rfl ⟨rfl,rfl,rfl,rfl,trivial⟩)
 · go_upto_region 12 with fail
   refine zao (by assumption) ?_
   have e:v=v.beg sq:=by unfold VL.beg;rw [if_neg hc]
   exact F.out _ _ _ e T Z.out Y.out (Fr.mk rfl ⟨rfl,rfl,rfl,rfl,trivial⟩)
theorem zpk (Sw:List Nat) (gW gc:Nat) (v:VL) (k:Sb.Pkt) (ok:k.ok) (u':Sb.Pt) (vd:Int) (sds:List Sb.Sd) (G:Option Addr) (dn dc:Nat) (W:World) (hB:Blk W gW 86 (v.row gc).toArray) (j:(Pk.bytes k.pk).length=dn) (g:dn≤dc) (R:IntsAt W W.heap.size .u8 G (Pk.bytes k.pk)) (E:LnM W Sw gW v) (P:HeedP v sds) (f:sds.length≤100000) (i:k.sq<(v.ss.length:Int)) (z:k.ty≠101) (As:u'.jt.ok) (hl:u'.jt.q.length≤1000) (O:∀ a∈u'.jt.q,I64 a.m.sq) (Qx:v.ds.length≤1000)
 (N:∀ (u:PQ) (A:Option Addr) (c:Nat),ArP (v.hed u sds.length A c) vd k.sq (Jb.ptime u'.jt k.ti)) (n0:0≤v.now) (n1:v.now≤100000000) (c0:0≤v.count) (c1:v.count≤1000000)
 (M:∀ (V:World) (Mx:Option Addr) (cm:Nat) (Et:Option Addr) (ce:Nat) (Pl:Option Addr) (cp:Nat),Below W.heap.size W V→IntsAt V V.heap.size .u8 Pl k.pl→Calls Tryz.prog 26 #[.agg (PA v.u.p v.u.A v.u.n v.u.c), .int .i64 v.now, .agg (k.rx Mx cm Et ce Pl cp).row] V (RecvR (u',vd,sds) V)) :
 Calls Tryz.prog 78 #[.pointer (some ⟨gW,0,none⟩), .slice G dn dc] W fun e w'=>e = .returned (.tuple #[])∧∃ (A':Option Addr) (n' c':Nat) (l':List TW) (C:Option Addr) (D:Nat) (dA:Option Addr) (F:Nat) (v':VL),v' = { ((v.hed ⟨u',A',n',c',l'⟩ sds.length C D).beg k.sq).cnt k.sq with dA:=dA,dc:=F,ds:=dsN (v.hed ⟨u',A',n',c',l'⟩ sds.length C D) vd k.sq (Jb.ptime u'.jt k.ti) } ∧ Blk w' gW 86 (v'.row gc).toArray∧LnM w' Sw gW v'∧l'.map TW.w=u'.jt.q∧l'.length=n'∧n'≤c'∧c'≤maxLen∧QAv w' Sw A' l'∧Chg [gW] W w':=by
 have Yl:=hB.lt
 refine zvz Sw vd sds gW gc v k ok u' G dn dc W hB j g R E P f i M (fun W1 a gX g3 Mx cm Et ce Pl cp A' n' c' l' C D B1 t Q B3 g1 g2 g4 q1 q2 L K hQ U B => ?_)
 have d:n'≤1000:=by have Y:=congrArg List.length q1;rw [List.length_map,q2] at Y;omega
 refine zxq ok Q B3 z As q1 q2 d (hQ [] (by simp)).wts (fun a B=>O a.w (by rw [← q1];exact List.mem_map_of_mem B)) (fun W2 a hb B => ?_) a B
 have B2:=B1.later hb
 have o:=t.chg (T:=[]) (Chg.of_below hb) (by simp)
 obtain ⟨s,rfl,Ak⟩:=B
 obtain ⟨b,e4,e7,Z,y,l,_⟩:=Ak
 refine zwa (v:=v.hed ⟨u',A',n',c',l'⟩ sds.length C D) (pt:=Jb.ptime u'.jt k.ti) (Chg.of_below hb) B2 o (by show (v.ds.drop _).length≤1000;rw [List.length_drop];omega) (N _ _ _) n0 n1 c0 c1 (fun e w' X => ?_) _ ⟨s,rfl,⟨b,Z,y,l,trivial⟩⟩
 obtain ⟨rfl,dA,F,J,I,H⟩:=X
 have h:∀ x∈Sw,x<W.heap.size:=E.lt
 exact ⟨rfl,A',n',c',l',C,D,dA,F,_,rfl,J,I,q1,q2,L,K,(hQ Sw h).chg H (by intro x hx;simp at hx;rw [hx];exact E.gS),U.trans H⟩
theorem zwb (gW gc:Nat) (v:VL) (k:Sb.Pkt) (ok:k.ok) (u':Sb.Pt) (E:Option Addr) (dn dc:Nat) (W:World) (hB:Blk W gW 86 (v.row gc).toArray) (Z:(Pk.bytes k.pk).length=dn) (T:dn≤dc) (N:IntsAt W W.heap.size .u8 E (Pk.bytes k.pk)) (Sw:List Nat) (L:LnM W Sw gW v) (hds:v.ds=[]) (Y:k.sq<(v.ss.length:Int)) (b:k.ty≠101) (d:u'.jt.ok) (hl:u'.jt.q.length≤1000) (M:∀ a∈u'.jt.q,I64 a.m.sq) (h1:v.now<Jb.ptime u'.jt k.ti) (h2:v.done<k.sq) (n0:0≤v.now) (n1:v.now≤100000000) (c0:0≤v.count) (c1:v.count≤1000000)
 (K:∀ (V:World) (Mx:Option Addr) (cm:Nat) (Et:Option Addr) (ce:Nat) (Pl:Option Addr) (cp:Nat),Below W.heap.size W V→IntsAt V V.heap.size .u8 Pl k.pl→Calls Tryz.prog 26 #[.agg (PA v.u.p v.u.A v.u.n v.u.c), .int .i64 v.now, .agg (k.rx Mx cm Et ce Pl cp).row] V (RecvR (u',1,[]) V)) :
 Calls Tryz.prog 78 #[.pointer (some ⟨gW,0,none⟩), .slice E dn dc] W fun e w'=>e = .returned (.tuple #[])∧∃ (A':Option Addr) (n' c':Nat) (l':List TW) (dA:Option Addr) (B:Nat),1≤B∧Blk w' gW 86 (VL.row { (({ v with u:=⟨u',A',n',c',l'⟩ } : VL).beg k.sq).cnt k.sq with dA:=dA,dc:=B,ds:=[(Jb.ptime u'.jt k.ti,k.sq)] } gc).toArray∧l'.map TW.w=u'.jt.q∧l'.length=n'∧n'≤c'∧c'≤maxLen∧QAv w' Sw A' l'∧RowsAv w' Sw 2 duRow dA [(Jb.ptime u'.jt k.ti,k.sq)]∧Chg [gW] W w':=by
 refine (zpk Sw gW gc v k ok u' 1 [] E dn dc W hB Z T N L ⟨fun j s h=>by simp at h,fun p h=>by rw [hds] at h;simp at h⟩ (by simp) Y b d hl M (by rw [hds];simp) (fun u A c => .inl ⟨rfl,by show ∀ p∈v.ds.drop 0,_;rw [hds];simp,h1,by show maxD v.done (v.ds.take 0)<_;exact h2⟩) n0 n1 c0 c1 K).mono ?_
 rintro e w' ⟨rfl,A',n',c',l',U,X,dA,B,v',R,F,C,q1,q2,J,I,H,G⟩
 have P:dsN (v.hed ⟨u',A',n',c',l'⟩ ([]:List Sb.Sd).length U X) 1 k.sq (Jb.ptime u'.jt k.ti)=[(Jb.ptime u'.jt k.ti,k.sq)]:=by unfold dsN;rw [if_pos rfl];show insD (v.ds.drop 0) _=_;rw [hds];rfl
 have O:v' = { (({ v with u:=⟨u',A',n',c',l'⟩ } : VL).beg k.sq).cnt k.sq with dA:=dA,dc:=B,ds:=[(Jb.ptime u'.jt k.ti,k.sq)] } := by
  rw [R,P]
  unfold VL.beg
  split
  · rename_i hc
    have D:v.count=0:=hc
    rw [if_pos D];rfl
  · rename_i hc
    have D:¬v.count=0:=hc
    rw [if_neg D];rfl
 rw [O] at F C
 exact ⟨rfl,A',n',c',l',dA,B,C.cap,F,q1,q2,J,I,H,C.due,G⟩
noncomputable def un0_code:Code:=((Tryz.f35.body.bind (fromReg 0)).getD .skip)
structure UnK (gW gc:Nat) (t:Int) (I:Nat→VL→Ca→World→Prop) (J:Nat→VL→Ca→World→Option Addr→List Dg→Nat→Prop):Prop where
 ib:∀ n v k W,I n v k W→Blk W gW 86 (v.row gc).toArray
 il:∀ n v k W,I n v k W→∀ W',Below W.heap.size W W'→I n v k W'
 ib2:∀ n v k W,I n v k W→gW≠gc
 nx:∀ n v k W,I n v k W→Calls Tryz.prog 76 #[.pointer (some ⟨gc,0,none⟩)] W (NextR k.ps W)
 rc:∀ n v k W,I n v k W→n<500→∀ s,(∃ p∈k.ps,s=max v.now p.at_∧p.at_≤t)→∀ W1,Blk W1 gW 86 (VL.row { v with now:=s } gc).toArray→Chg [gW] W W1→∀ V,Below W1.heap.size W1 V→Calls Tryz.prog 77 #[.pointer (some ⟨gc,0,none⟩), .int .i64 s] V fun e w' => ∃ (A:Option Addr) (c:Nat) (ds:List Dg) (k':Ca),e = .returned (.tuple #[.slice A ds.length c, .int .u8 0])∧0<ds.length∧ds.length≤1000∧Chg [gc] V w'∧(∀ w2,Blk w2 gW 86 (VL.row { v with now:=s } gc).toArray→Chg [gW] w' w2→J n { v with now:=s } k' w2 A ds 0)
 jb:∀ n v k W A ds j,J n v k W A ds j→Blk W gW 86 (v.row gc).toArray
 jr:∀ n v k W A ds j,J n v k W A ds j→RowsAt W W.heap.size 5 Dg.row A ds
 ar:∀ n v k W A ds j d,J n v k W A ds j→ds[j]? = some d→Calls Tryz.prog 78 #[.pointer (some ⟨gW,0,none⟩), .slice d.A d.zs.length d.c] W fun e w'=>e = .returned (.tuple #[])∧∃ v',J n v' k w' A ds (j+1)
 fi:∀ n v k W A ds,J n v k W A ds ds.length→I (n+1) v k W
theorem zxr {l:List Dg} {d:Dg} (h:RowsAt w n 5 Dg.row A l) (hd:l[i]? = some d):∃ b off,A=some ⟨b,off,none⟩∧b<n∧w.cell? ⟨b,off+i*5+4,none⟩=some (.slice d.A d.zs.length d.c):=by
 obtain ⟨b,off,e,hb,hc⟩:=h (by have:=(List.getElem?_eq_some_iff.1 hd).1;omega)
 exact ⟨b,off,e,hb,hc i d hd 4 _ rfl⟩
theorem zig {I:Nat→VL→Ca→World→Prop} {J:Nat→VL→Ca→World→Option Addr→List Dg→Nat→Prop} (K:UnK gW gc t I J) (v:VL) (k:Ca) (W:World) (h0:I 0 v k W) {R:Ending→World→Prop}
 (h:∀ n v k W,I n v k W→(n=500∨∀ p∈k.ps,t<p.at_)→∀ W',Blk W' gW 86 (VL.row { v with now:=max v.now t } gc).toArray→Chg [gW] W W'→R (.returned (.tuple #[])) W'):Calls Tryz.prog 35 #[.pointer (some ⟨gW,0,none⟩), .int .i64 t] W R:=by
 go_enter Tryz.func35,Tryz.ntmps35
 go_wp2_with fail
 refine wp_loop_rounds 501 (zav (fun m a wr => ∃ (n:Nat) (v:VL) (k:Ca),m+n=500∧I n v k wr∧Fr 102 ((4, .int .i64 (n:Int)) :: [(0, .pointer (some ⟨gW,0,none⟩)),(1, .int .i64 t)]) a) (fun m a wr M => ?_) 500 _ _ ⟨0,v,k,rfl,h0,Fr.mk rfl ⟨rfl,rfl,rfl,trivial⟩⟩)
 clear h0
 obtain ⟨n,v,k,hm,F,T⟩:=M
 obtain ⟨s,rfl,b⟩:=T
 simp only [rl9]
 obtain ⟨U,X,V,_⟩:=b
 rw [X,V,U]
 have B:=Z9 (K.ib n v k wr F)
 have l:=B.out.at 96 (.pointer (some ⟨gc,0,none⟩)) rfl
 have y:=B.out.at 97 (.int .i64 v.now) rfl
 have Bi:=B.out.at 110 (.bool false) rfl
 have D:=F
 by_cases hn:n<500
 rotate_left
 · have Pb:¬(n:Int)<500:=by omega
   have H:=B.out.frozen 97
   have O:=B.out.lt
   go_wp2_with fail
   go_end0
   exact h n v k _ D (.inl (by omega)) _ (B.out.set_ 97 _) (Chg.of_only (OnlyB.setCell _ _ _ _) (by simp))
 have Pb:(n:Int)<500:=by omega
 go_wp2_with fail
 refine (K.nx n v k wr F).mono ?_
 rintro e w1 ⟨hb,hN⟩
 replace D:=K.il n v k wr F w1 hb
 replace B:=Z9 (K.ib n v k w1 D)
 replace l:w1.cell? ⟨gW,96,none⟩=some (.pointer (some ⟨gc,0,none⟩)):=B.out.at 96 _ rfl
 replace y:w1.cell? ⟨gW,97,none⟩=some (.int .i64 v.now):=B.out.at 97 _ rfl
 replace Bi:w1.cell? ⟨gW,110,none⟩=some (.bool false):=B.out.at 110 _ rfl
 clear hb F
 rcases hN with ⟨Ke,rfl⟩|⟨t',rfl,⟨p,hp,rfl⟩,Wx⟩
 · have H:=B.out.frozen 97
   have O:=B.out.lt
   go_wp2_with fail
   go_end0
   exact h n v k _ D (.inr (by rw [Ke];intro p hp;cases hp)) _ (B.out.set_ 97 _) (Chg.of_only (OnlyB.setCell _ _ _ _) (by simp))
 by_cases tQ:t<p.at_
 · have H:=B.out.frozen 97
   have O:=B.out.lt
   go_wp2_with fail
   go_end0
   exact h n v k _ D (.inr (fun q hq=>by have:=Wx q hq;omega)) _ (B.out.set_ 97 _) (Chg.of_only (OnlyB.setCell _ _ _ _) (by simp))
 have Ue:p.at_≤t:=by omega
 have H:=B.out.frozen 97
 have O:=B.out.lt
 go_upto_region 6 with fail
 obtain ⟨V1,C⟩:=nm9 (w1.setCell ⟨gW,97,none⟩ (.int .i64 (max v.now p.at_)))
 have o:OnlyB gW (w1) V1:=by rw [C];exact OnlyB.setCell _ _ _ _
 have N:Blk V1 gW 86 (VL.row { v with now:=max v.now p.at_ } gc).toArray:=by rw [C];exact B.out.set_ 97 _
 rw [← C]
 clear C
 have zK:=K.ib2 n v k w1 D
 have P:gW ∉ [gc]:=by simp;exact zK
 have w:=N.at 96 (.pointer (some ⟨gc,0,none⟩)) rfl
 have f:=N.at 97 (.int .i64 (max v.now p.at_)) rfl
 have Z:=Z9 N
 have Y:=Z9 (Chg.of_only o (S:=[gW]) (by simp))
 clear N o l y Bi H O B
 go_region_held3 (fun w'=>Chg [gc] V1 w'∧w'.cell? ⟨gW,96,none⟩=some (.pointer (some ⟨gc,0,none⟩))∧w'.cell? ⟨gW,97,none⟩=some (.int .i64 (max v.now p.at_)))
  (first|assumption|((try go_split_ands);refine zcv ?_ (fun At=>⟨zbo At P w,zbo At P f⟩);(with_reducible repeat first|assumption|exact Chg.refl _ _|refine Chg.drew ?_)))
  (first
   | (go_at_call 77;refine (K.rc n v k w1 D hn _ ⟨p,hp,rfl,Ue⟩ V1 Z.out Y.out _ (Below.drew (Below.refl _ _))).mono ?_;rintro e w7 ⟨A,c,ds,k',rfl,Ok,Qx,i,M⟩;have u:Chg [gc] V1 w7:=Chg.trans (Chg.drew (Chg.refl _ _)) i))
 all_goals
  have G:=u.blk Z.out P
  have Wd:=G.at 110 (.bool false) rfl
  have fq:=G.frozen 110
  have i7:=G.lt
  have Q:=Z9 G
  have yI:¬ds.length=0:=by omega
  have Pa:¬ds=[]:=fun e=>yI (by rw [e];rfl)
  have Cc:((ds.length:Int)==0)=false:=by simpa using Pa
  have U6:=Z9 Cc
  clear G u i w f Cc
  go_upto_region 8 with fail
  try rw [U6.out]
  obtain ⟨V2,C⟩:=nm9 (w7.setCell ⟨gW,110,none⟩ (.bool false))
  have z:OnlyB gW (w7) V2:=by rw [C];exact OnlyB.setCell _ _ _ _
  have B8:Blk V2 gW 86 (VL.row { v with now:=max v.now p.at_ } gc).toArray:=by rw [C];exact Q.out.set_ 110 _
  rw [← C]
  clear C
  have g:=M V2 B8 (Chg.of_only z (by simp))
  clear M B8 z Wd fq Q Z
  go_wp2_with fail
  refine wp_loop_rounds (ds.length+1) (zav (fun m a wr => ∃ (j:Nat) (v2:VL) (L:Ca),m+j=ds.length∧J n v2 L wr A ds j∧Fr 102 [(9, .int .i64 (j:Int)),(7, .slice A ds.length c),(4, .int .i64 (n:Int)),(0, .pointer (some ⟨gW,0,none⟩)),(1, .int .i64 t)] a) (fun m2 a wr E => ?_) ds.length _ _ ⟨0,_,_,rfl,g,Fr.mk rfl ⟨rfl,rfl,rfl,rfl,rfl,trivial⟩⟩)
  clear g
  obtain ⟨j,v2,L,Ay,E,T⟩:=E
  obtain ⟨s,rfl,b⟩:=T
  simp only [rl9]
  obtain ⟨e9,e7,U,X,V,_⟩:=b
  rw [X,V,U,e7,e9]
  have x:=Z9 (K.jb _ _ _ _ _ _ _ E)
  have wK:=x.out.at 110 (.bool false) rfl
  have oQ:(0:Int)≤(j:Int):=by omega
  by_cases hj:j<ds.length
  rotate_left
  · have Tj:¬(j:Int)<(ds.length:Int):=by omega
    obtain rfl:j=ds.length:=by omega
    go_wp2_with fail
    exact ⟨m-1,by omega,n+1,by omega,⟨v2,L,K.fi _ _ _ _ _ _ E⟩,Fr.mk rfl ⟨rfl,rfl,rfl,trivial⟩⟩
  have Tj:(j:Int)<(ds.length:Int):=by omega
  obtain ⟨d,hd⟩:∃ d,ds[j]? = some d:=⟨_,List.getElem?_eq_getElem hj⟩
  obtain ⟨bD,oD,rfl,Pp,x4⟩:=zxr (K.jr _ _ _ _ _ _ _ E) hd
  go_wp2_with fail
  refine (K.ar _ _ _ _ _ _ _ d E hd).mono ?_
  rintro e w9 ⟨rfl,v3,F6⟩
  clear x4 wK x E
  go_wp2_with fail
  exact ⟨m2-1,by omega,j+1,v3,L,by omega,F6,Fr.mk rfl ⟨rfl,rfl,rfl,rfl,rfl,trivial⟩⟩
def EncN (k:Int) (bs:List Int) (s:Int×Int) (w:World) (e:Ending) (w':World):Prop:=∃ (A':Option Addr) (c':Nat),e = .returned (.tuple #[.slice A' bs.length c', .agg #[.int .i64 s.1, .int .i64 s.2], .int .u8 0])∧(k=96→bs.length≤c')∧IntsNew w.heap.size w' .u8 A' bs∧Below w.heap.size w w'
structure EnN (k v i:Int) (zs bs:List Int) (s:Int×Int) (K D:Nat) (C:Nat→Nat→Array Value):Prop where
 at_:∀ b1 b2,cAt b1 b2 k = .agg #[.func (.func K) #[] (C b1 b2), .func (.func D) #[] (C b1 b2)]
 en:∀ (args:Array Value) (w:World),(callFunc K args).run Tryz.prog w = .ok (.enter K args) w
 run:∀ (V:World) (b1 b2:Nat) (ZA:Option Addr) (zc:Nat),IntsAt V V.heap.size .i16 ZA zs→Blk V b1 5 #[.int .u8 1]→Blk V b2 5 #[.int .u8 2]→Calls Tryz.prog K (#[.agg #[.int .i64 v, .int .i64 i], .slice ZA zs.length zc]++C b1 b2) V (EncN k bs s V)
structure DeN (k n:Int) (A:Option Addr) (c:Nat) (bs zs:List Int) (K D:Nat) (C:Nat→Nat→Array Value):Prop where
 at_:∀ b1 b2,cAt b1 b2 k = .agg #[.func (.func D) #[] (C b1 b2), .func (.func K) #[] (C b1 b2)]
 en:∀ (args:Array Value) (w:World),(callFunc K args).run Tryz.prog w = .ok (.enter K args) w
 run:∀ (V:World) (b1 b2:Nat),IntsAt V V.heap.size .u8 A bs→Blk V b1 5 #[.int .u8 1]→Blk V b2 5 #[.int .u8 2]→Calls Tryz.prog K (#[.slice A bs.length c, .int .i64 n]++C b1 b2) V (DecR zs 0 V)
theorem enN (k v i:Int) (hk:speechB k=true) (hv:Dlt.valid v i=true) (zs:List Int) (hz:Within (-32768) 32767 zs) (hl:zs.length=160):∃ K D C,EnN k v i zs (Sb.enc k (v,i) zs).1 (Sb.enc k (v,i) zs).2 K D C:=by
 unfold Sb.enc
 rcases zal.1 hk with rfl|rfl|rfl
 · refine ⟨_,_,fun b1 _ => #[.pointer (some ⟨b1,0,none⟩)],⟨fun b1 b2=>rfl,fun _ _=>by kernel_rfl,fun V b1 b2 ZA zc A h1 h2 => ?_⟩⟩
   refine (zuc v i ZA zs zc b1 V A hz (by omega) h1).mono ?_
   rintro e w' ⟨A',c',rfl,h2,h3⟩
   exact ⟨A',c',rfl,fun h=>absurd h (by decide),h2,h3⟩
 · refine ⟨_,_,fun _ b2 => #[.pointer (some ⟨b2,0,none⟩)],⟨fun b1 b2=>rfl,fun _ _=>by kernel_rfl,fun V b1 b2 ZA zc A h1 h2 => ?_⟩⟩
   refine (zxi v i ZA zs zc b2 V A hz (by omega) h2).mono ?_
   rintro e w' ⟨A',c',rfl,h2,h3⟩
   exact ⟨A',c',rfl,fun h=>absurd h (by decide),h2,h3⟩
 · refine ⟨_,_,fun _ _ => #[],⟨fun b1 b2=>rfl,fun _ _=>by kernel_rfl,fun V b1 b2 ZA zc A h1 h2 => ?_⟩⟩
   refine (zhi v i ZA zs zc V hv A hz (by omega) (by omega)).mono ?_
   rintro e w' ⟨A',c',rfl,h1,h2,h3⟩
   refine ⟨A',c',?_,fun _ => ?_,h2,h3⟩
   · show _=Ending.returned (.tuple #[.slice A' (Dlt.packB (v,i) zs).length c',_,_])
     rw [Dlt.packB_len]
     rfl
   · show (Dlt.packB (v,i) zs).length≤c'
     rw [Dlt.packB_len];exact h1
theorem deN (k:Int) (hk:speechB k=true) (A:Option Addr) (bs:List Int) (c:Nat) (hz:Within 0 255 bs) (H:bs.length≤5000) (G:k=96→bs.length≤c∧bs.length=84) (hl:(Sb.decS k bs).length=160):∃ K D C,DeN k (2*((bs.length:Int)-4)) A c bs (Sb.decS k bs) K D C:=by
 rcases zal.1 hk with rfl|rfl|rfl
 · refine ⟨_,_,fun b1 _ => #[.pointer (some ⟨b1,0,none⟩)],⟨fun b1 b2=>rfl,fun _ _=>by kernel_rfl,fun V b1 b2 B h1 h2 => ?_⟩⟩
   exact zuh _ A bs c b1 V B hz (by omega) h1
 · refine ⟨_,_,fun _ b2 => #[.pointer (some ⟨b2,0,none⟩)],⟨fun b1 b2=>rfl,fun _ _=>by kernel_rfl,fun V b1 b2 B h1 h2 => ?_⟩⟩
   exact zyh _ A bs c b2 V B hz (by omega) h2
 · refine ⟨_,_,fun _ _ => #[],⟨fun b1 b2=>rfl,fun _ _=>by kernel_rfl,fun V b1 b2 B h1 h2 => ?_⟩⟩
   obtain ⟨hc,F⟩:=G rfl
   have h:=zql (2*((bs.length:Int)-4)) A bs c V B hz hc (by unfold maxLen;omega)
   have hn:(2*((bs.length:Int)-4))=160:=by omega
   have hd:Dlt.unpR bs (2*((bs.length:Int)-4))=((Sb.decS 96 bs),(Dlt.unpR bs (2*((bs.length:Int)-4))).2.1,(Dlt.unpR bs (2*((bs.length:Int)-4))).2.2.1,0):=by
    rw [hn]
    have e:Sb.decS 96 bs=if Sb.Dlt.fits bs 160 then Dlt.unpackL bs 160 else []:=by unfold Sb.decS;rw [if_neg (by decide),if_neg (by decide),if_pos rfl]
    rw [e] at hl ⊢
    have h2:Sb.Dlt.fits bs 160:=by
     by_cases E:Sb.Dlt.fits bs 160
     · exact E
     · rw [if_neg E] at hl;simp at hl
    have h3:Dlt.okB bs 160:=h2
    rw [if_pos h2]
    unfold Dlt.unpR
    rw [if_neg (by decide),show (160:Int).toNat=160 from rfl,if_neg (by omega),if_pos h3]
   rw [hd] at h
   exact h
theorem zss (a b:Int) (ha:speechB a=true) (hb:speechB b=true) (G:0≤a∧a≤255) (b1:0≤b∧b≤255) (A:Option Addr) (bs:List Int) (c:Nat) (v i:Int) (w:World) (y:IntsAt w w.heap.size .u8 A bs) (h8:bs.length≤5000) (h4:a=96→4≤bs.length) (Q d:List Int) (s:Int×Int) (M N J K:Nat) (H F:Nat→Nat→Array Value)
 (x:DeN a (2*((bs.length:Int)-4)) A c bs Q M N H) (R:EnN b v i Q d s J K F):Calls Tryz.prog 74 #[.int .u8 a, .int .u8 b, .slice A bs.length c, .agg #[.int .i64 v, .int .i64 i]] w (EncN b d s w):=by
 obtain ⟨s1,s2⟩:=s
 have ZJ:wrap64 (2*((bs.length:Int)-4))=2*((bs.length:Int)-4):=IntWalk.wrap64_in _ ⟨by omega,by omega⟩
 have Fc:a=96→¬(bs.length:Int)<4:=fun h=>by have:=h4 h;omega
 have TP:=Z9 Fc
 have f:=Z9 x
 have g:=Z9 R
 have Yp:=Z9 G
 have o:=Z9 b1
 clear x R h4 G b1 Fc
 have O:=Z9 ((y.push (.cells #[.int .i64 v, .int .i64 i] 30)).push (.cells #[.int .i64 0, .int .i64 0] 30))
 have L:=Z9 ((Blk.new w 30 #[.int .i64 v, .int .i64 i]).push (.cells #[.int .i64 0, .int .i64 0] 30))
 have I:=Z9 (Blk.new1 w (.cells #[.int .i64 v, .int .i64 i] 30) 30 #[.int .i64 0, .int .i64 0])
 have U:=Z9 (((Bel.refl w).push (.cells #[.int .i64 v, .int .i64 i] 30)).push (.cells #[.int .i64 0, .int .i64 0] 30))
 clear y
 go_enter Tryz.func74,Tryz.ntmps74
 go_upto_region 1 with fail
 change Code.wp _ _ _ _ ((w.alloc (Obj.cells #[.int .i64 v, .int .i64 i] 30)).alloc (Obj.cells #[.int .i64 0, .int .i64 0] 30))
 obtain ⟨W,Z⟩:=nm9 ((w.alloc (Obj.cells #[.int .i64 v, .int .i64 i] 30)).alloc (Obj.cells #[.int .i64 0, .int .i64 0] 30))
 have l:W.heap.size=w.heap.size+2:=by rw [Z];exact zbt _ _ _
 have P9:=Z9 l
 rw [← Z] at O L I U ⊢
 clear Z l
 go_wp2_with fail
 refine (zbh _).mono ?_
 rintro e w1 ⟨m1,G,d1,rfl,C,B⟩
 have MB:=(zbb C a Yp.out.1 Yp.out.2).2
 rw [f.out.at_,ha] at MB
 have HC:=Z9 (C.later ((Below.refl _ _).alloc (Nat.le_refl _) (.cells #[.func (.func N) #[] (H G d1), .func (.func M) #[] (H G d1)] 148)))
 replace O:=Z9 ((O.out.later B).push (.cells #[.func (.func N) #[] (H G d1), .func (.func M) #[] (H G d1)] 148))
 replace L:=Z9 ((L.out.later B).push (.cells #[.func (.func N) #[] (H G d1), .func (.func M) #[] (H G d1)] 148))
 replace I:=Z9 ((I.out.later B).push (.cells #[.func (.func N) #[] (H G d1), .func (.func M) #[] (H G d1)] 148))
 replace U:=Z9 ((U.out.later B).push (.cells #[.func (.func N) #[] (H G d1), .func (.func M) #[] (H G d1)] 148))
 have Y:=Z9 (Blk.new w1 148 #[.func (.func N) #[] (H G d1), .func (.func M) #[] (H G d1)])
 have T:=B.size
 have n:Hid (W.heap.size≤(w1.alloc (.cells #[.func (.func N) #[] (H G d1), .func (.func M) #[] (H G d1)] 148)).heap.size):=Z9 (Nat.le_trans T (by rw [zaq];exact Nat.le_succ _))
 clear C B T
 go_wp2_with fail
 refine (zbh _).mono ?_
 rintro e w2 ⟨m2,E,D,rfl,C,B⟩
 have LZ:=(zbb C b o.out.1 o.out.2).2
 rw [g.out.at_,hb] at LZ
 replace HC:=Z9 ((HC.out.later B).later ((Below.refl _ _).alloc (Nat.le_refl _) (.cells #[.func (.func J) #[] (F E D), .func (.func K) #[] (F E D)] 148)))
 have V:=Z9 (C.later ((Below.refl _ _).alloc (Nat.le_refl _) (.cells #[.func (.func J) #[] (F E D), .func (.func K) #[] (F E D)] 148)))
 replace O:=Z9 ((O.out.later B).push (.cells #[.func (.func J) #[] (F E D), .func (.func K) #[] (F E D)] 148))
 replace L:=Z9 ((L.out.later B).push (.cells #[.func (.func J) #[] (F E D), .func (.func K) #[] (F E D)] 148))
 replace I:=Z9 ((I.out.later B).push (.cells #[.func (.func J) #[] (F E D), .func (.func K) #[] (F E D)] 148))
 replace U:=Z9 ((U.out.later B).push (.cells #[.func (.func J) #[] (F E D), .func (.func K) #[] (F E D)] 148))
 replace Y:=Z9 ((Y.out.later B).push (.cells #[.func (.func J) #[] (F E D), .func (.func K) #[] (F E D)] 148))
 have X:=Z9 (Blk.new w2 148 #[.func (.func J) #[] (F E D), .func (.func K) #[] (F E D)])
 have T:=Nat.le_trans n.out B.size
 have t:Hid (W.heap.size≤(w2.alloc (.cells #[.func (.func J) #[] (F E D), .func (.func K) #[] (F E D)] 148)).heap.size):=Z9 (Nat.le_trans T (by rw [zaq];exact Nat.le_succ _))
 clear C B T n
 have bc:=Y.out.at 1 _ rfl
 have j:=f.out.en
 by_cases bR:a=96
 rotate_left
 all_goals
  try have hn4:=TP.out (by assumption)
  go_wp2_with fail
  refine (f.out.run _ G d1 O.out HC.out.l1 HC.out.l2).mono ?_
  rintro e w3 ⟨A3,c3,rfl,u,B⟩
  have HI:=Z9 u.1
  have Q5:Hid (W.heap.size≤w3.heap.size):=Z9 (Nat.le_trans t.out B.size)
  replace L:=Z9 (L.out.later B)
  replace I:=Z9 (I.out.later B)
  replace U:=Z9 (U.out.later B)
  replace X:=Z9 (X.out.later B)
  replace V:=Z9 (V.out.later B)
  clear u B O bc Y HC t MB LZ j ZJ
  have N8:=X.out.at 0 _ rfl
  have s0:=L.out.at 0 _ rfl
  have VY:=L.out.at 1 _ rfl
  have j:=g.out.en
  go_wp2_with fail
  refine (g.out.run _ E D A3 c3 HI.out V.out.l1 V.out.l2).mono ?_
  rintro e w4 ⟨A4,z,rfl,Fg,R,B⟩
  have Xy:=Z9 Fg
  replace I:=Z9 ((I.out.later B).push (.cells #[.int .i64 s1, .int .i64 s2] 30))
  replace U:=Z9 ((U.out.later B).push (.cells #[.int .i64 s1, .int .i64 s2] 30))
  have HE:=Z9 (R.push (.cells #[.int .i64 s1, .int .i64 s2] 30))
  have BD:=Z9 (Blk.new w4 30 #[.int .i64 s1, .int .i64 s2])
  clear R B N8 s0 VY L X HI V j Fg
  have c0:=BD.out.at 0 _ rfl
  have c1:=BD.out.at 1 _ rfl
  have r0:=I.out.at 0 _ rfl
  have r1:=I.out.at 1 _ rfl
  have rz:=I.out.frozen
  go_upto_region 13 with fail
  go_region
  have RF:=I.out.set_ 0 (.int .i64 s1)
  have RG:=RF.set_ 1 (.int .i64 s2)
  have hh:=P9.out
  have hh3:=Q5.out
  have RJ:=((HE.out.setCell (p:=⟨w.heap.size+1,0,none⟩) (by simp only;omega) (.int .i64 s1)).setCell (p:=⟨w.heap.size+1,1,none⟩) (by simp only;omega) (.int .i64 s2)).less (m:=w.heap.size) (by omega)
  have UF:=zah (zah U.out (by simp) (.int .i64 s1) (p:=⟨w.heap.size+1,0,none⟩)) (by simp) (.int .i64 s2) (p:=⟨w.heap.size+1,1,none⟩)
  go_wp2_with fail
  refine bodyPost_ret (v := .tuple #[.slice A4 d.length z, .agg #[.int .i64 s1, .int .i64 s2], .int .u8 0]) (ziw Tryz.results74 rfl rfl (run_loadVar_row (P:=Tryz.prog) _ _ _ _ _ _ _ RG.drew Tryz.underlying30 rfl (by kernel_rfl)) rfl) rfl ⟨A4,z,rfl,Xy.out,RJ,UF.drew⟩
theorem zpl (a b:Int) (B:speechB a=true) (hb:speechB b=true) (A:Option Addr) (bs:List Int) (n c:Nat) (hn:bs.length=n) (v i:Int) (hv:Dlt.valid v i=true) (w:World) (G:IntsAt w w.heap.size .u8 A bs) (hz:Within 0 255 bs) (C:n≤5000) (D:a=96→n≤c∧n=84) (hl:(Sb.decS a bs).length=160):Calls Tryz.prog 74 #[.int .u8 a, .int .u8 b, .slice A n c, .agg #[.int .i64 v, .int .i64 i]] w (EncN b (Sb.enc b (v,i) (Sb.decS a bs)).1 (Sb.enc b (v,i) (Sb.decS a bs)).2 w):=by
 subst hn
 obtain ⟨K,M,O,F⟩:=deN a B A bs c hz C D hl
 obtain ⟨J,L,N,E⟩:=enN b v i hb hv (Sb.decS a bs) (Sb.decS_bd a bs hz) hl
 have I:0≤a∧a≤255:=by rcases zal.1 B with e|e|e<;>omega
 have H:0≤b∧b≤255:=by rcases zal.1 hb with e|e|e<;>omega
 exact zss a b B hb I H A bs c v i w G C (fun h=>by have:=D h;omega) _ _ _ K M J L O N F E
theorem zgj (k:Int) (hk:speechB k=true) (A:Option Addr) (bs:List Int) (n c:Nat) (hn:bs.length=n) (w:World) (C:IntsAt w w.heap.size .u8 A bs) (hz:Within 0 255 bs) (D:n≤8000) (hc:k=96→n≤c):Calls Tryz.prog 14 #[.int .u8 k, .slice A n c] w (Dec32R (Sb.decS k bs) w):=by
 by_cases E:k=96
 · exact zio k hk A bs n c hn w C hz D (hc E)
 subst hn
 have F:=Z9 C
 clear C hc
 rcases zal.1 hk with rfl|rfl|rfl
 · go_enter Tryz.func14,Tryz.ntmps14
   go_wp2_with fail
   refine (zdv A bs c _ F.out hz D).mono ?_
   rintro e w2 ⟨A1,rfl,B,hb⟩
   go_wp2_with fail
   go_ret
   exact ⟨A1,bs.length,by simp [Sb.decS],B,hb⟩
 · go_enter Tryz.func14,Tryz.ntmps14
   go_wp2_with fail
   refine (zfl A bs c _ F.out hz D).mono ?_
   rintro e w2 ⟨A1,rfl,B,hb⟩
   go_wp2_with fail
   go_ret
   exact ⟨A1,bs.length,by simp [Sb.decS],B,hb⟩
 · exact absurd rfl E
structure SyM (W:World) (S:List Nat) (base gW gc:Nat) (v:VL) (k:Ca):Prop where
 blk:Blk W gW 86 (v.row gc).toArray
 ca:CaM W S base gc k
 gS:gW∈S
 ne:gW≠gc
 pW:ownB k.pA≠some gW
 sent:Owns W base 51 1 v.sA v.ss.length v.sc (v.ss.flatMap TF.row)
 sW:ownB v.sA≠some gW
 sC:ownB v.sA≠some gc
 sP:∀ g,ownB v.sA=some g→ownB k.pA≠some g
 sS:∀ g,ownB v.sA=some g→g∈S
 ints:∀ f∈v.ss,IntsAv W S .i16 f.A f.zs
 due:RowsAv W S 2 duRow v.dA v.ds
 q:QAv W S v.u.A v.u.l
section
variable {W W':World} {S S' T:List Nat} {base gW gc:Nat} {v v':VL} {k k':Ca}
theorem SyM.mv (h:SyM W S base gW gc v k) (m:Mv T S W S' W') (h1:gW∉T) (h2:gc∉T) (h3:∀ g,ownB k.pA=some g→g∉T) (h4:∀ g,ownB v.sA=some g→g∉T):SyM W' S' base gW gc v k :=
 ⟨m.chg.blk h.blk h1,h.ca.mv m h2 h3,m.sub _ h.gS,h.ne,h.pW,m.chg.owns h.sent h4,h.sW,h.sC,h.sP,fun g hg=>m.sub _ (h.sS g hg),fun f hf=>m.ints (h.ints f hf),m.rows h.due,m.q h.q⟩
theorem Mv.wide (m:Mv T S W S' W'):Mv S S W S' W':=⟨m.sub,m.new,m.chg.more m.ts,fun _ h=>h,m.lt⟩
theorem Mv.comp (m:Mv S S W S' W') (m2:Mv S' S' W' uV W''):Mv S S W uV W'':=m.trans m2 m.new
theorem SyM.later (h:SyM W S base gW gc v k) (hb:Below W.heap.size W W'):SyM W' S base gW gc v k:=h.mv (Mv.below hb) (by simp) (by simp) (by simp) (by simp)
theorem SyM.add (h:SyM W S base gW gc v k) (hb:Below W.heap.size W W') (h1:W.heap.size≤g) (h2:g<W'.heap.size):SyM W' (g::S) base gW gc v k:=h.mv (Mv.add hb h1 h2) (by simp) (by simp) (by simp) (by simp)
theorem SyM.setW (h:SyM W S base gW gc v k) (ho:OnlyB gW W W') (hb:Blk W' gW 86 (v'.row gc).toArray) (A:v'.sA=v.sA:=by rfl) (F:v'.sc=v.sc:=by rfl) (B:v'.ss=v.ss:=by rfl) (E:v'.dA=v.dA:=by rfl) (D:v'.ds=v.ds:=by rfl) (C:v'.u=v.u:=by rfl):SyM W' S base gW gc v' k:=by
 have hc:Chg [gW] W W':=Chg.of_only ho (by simp)
 have hs:∀ x ∈ [gW],x∈S:=by intro x hx;simp at hx;rw [hx];exact h.gS
 have m:Mv [gW] S W S W':=Mv.of_chg hc hs
 have n1:∀ g,ownB v.sA=some g→g ∉ [gW]:=fun g hg hx=>by simp at hx;rw [hx] at hg;exact h.sW hg
 refine ⟨hb,h.ca.mv m (by simp;exact fun e=>h.ne e.symm) (fun g hg hx=>by simp at hx;rw [hx] at hg;exact h.pW hg),h.gS,h.ne,h.pW,?_,?_,?_,?_,?_,?_,?_,?_⟩
 · rw [A,F,B];exact hc.owns h.sent n1
 · rw [A];exact h.sW
 · rw [A];exact h.sC
 · rw [A];exact h.sP
 · rw [A];exact h.sS
 · rw [B];exact fun f hf=>m.ints (h.ints f hf)
 · rw [E,D];exact m.rows h.due
 · rw [C];exact m.q h.q
theorem SyM.low (h:SyM W S base gW gc v k):gW<W.heap.size:=h.ca.lt gW h.gS
theorem SyM.far (h:SyM W (g::S) base gW gc v k) (ho:OnlyB g W W') (h1:gW≠g) (h2:gc≠g) (h3:ownB k.pA≠some g) (h4:ownB v.sA≠some g):SyM W' (g::S) base gW gc v k :=
 h.mv (T:=[g]) (Mv.of_chg (Chg.of_only ho (by simp)) (by simp)) (by simp;exact h1) (by simp;exact h2) (fun q hq hx=>by simp at hx;rw [hx] at hq;exact h3 hq) (fun q hq hx=>by simp at hx;rw [hx] at hq;exact h4 hq)
theorem SyM.sendC {n:Nat} (h:SyM W S base gW gc v k) (B:CaM W' S' base gc k') (m:Mv (gc::(ownB k.pA).toList) S W S' W') (hp:ownB k'.pA=ownB k.pA∨∀ g,ownB k'.pA=some g→W.heap.size≤g):SyM W' S' base gW gc v k':=by
 have hl:=h.ca.lt
 have n0:∀ g,g∈S→ownB k.pA≠some g→ownB k'.pA≠some g:=fun g hg C e=>by
  rcases hp with A|A
  · exact C (A ▸ e)
  · have:=A g e;have:=hl g hg;omega
 have n1:gW∉gc::(ownB k.pA).toList:=fun hx=>by
  simp at hx
  rcases hx with e|e
  · exact h.ne e
  · exact h.pW e
 have n2:∀ g,ownB v.sA=some g→g∉gc::(ownB k.pA).toList:=fun g hg hx=>by
  simp at hx
  rcases hx with e|e
  · rw [e] at hg;exact h.sC hg
  · exact h.sP g hg e
 exact ⟨m.chg.blk h.blk n1,B,m.sub _ h.gS,h.ne,n0 gW h.gS h.pW,m.chg.owns h.sent n2,h.sW,h.sC,fun g hg=>n0 g (h.sS g hg) (h.sP g hg),fun g hg=>m.sub _ (h.sS g hg),fun f hf=>m.ints (h.ints f hf),m.rows h.due,m.q h.q⟩
end
end
end Go.Proofs.YtbcgnddpkiemoaaGreat
