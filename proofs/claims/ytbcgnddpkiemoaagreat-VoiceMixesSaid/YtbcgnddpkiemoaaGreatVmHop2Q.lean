/- The top of layer 32: a hop, whole. -/
import Derived.Test.YtbcgnddpkiemoaaGreatSs9Q
import Derived.Test.YtbcgnddpkiemoaaGreatRepArrQ
import Derived.Test.YtbcgnddpkiemoaaGreatJtCopyQ
import Derived.Test.YtbcgnddpkiemoaaGreatCaRc2Q
import Derived.Test.YtbcgnddpkiemoaaGreatJtValidQ
import Derived.Test.YtbcgnddpkiemoaaGreatJtPnQ
set_option linter.unusedVariables false
set_option linter.unusedSimpArgs false
set_option maxRecDepth 100000
set_option maxHeartbeats 12800000
namespace Go.Proofs.YtbcgnddpkiemoaaGreat
attribute [local go_sem ↓] zab zac
attribute [local go_sem] zaa zad
open Go.RowKit
theorem zjd {W:World} {gR gX:Nat} {k:Sb.Pkt} {Mx:Option Addr} {cm:Nat} {Et:Option Addr} {ce:Nat} {Pl:Option Addr} {cp:Nat} {SA:Option Addr} {sn sc:Nat} {R:Ending→World→Prop} (BR:Blk W gR 53 #[.int .i64 0, .slice none 0 0]) (BX:Blk W gX 112 (k.rx Mx cm Et ce Pl cp).row) (h13:k.ty=13)
 (h:∀ W',OnlyB gR W W'→R (.returned (.tuple #[.agg #[.int .i64 2, .slice none 0 0], .slice SA sn sc, .bool true])) W') (a:Act) (ha:Fr 119 [(8, .pointer (some ⟨gR,0,none⟩)),(19, .pointer (some ⟨gX,0,none⟩)),(24, .slice SA sn sc)] a):firstWp Tryz.prog hop15_code (bodyPost Tryz.prog Tryz.f8 R) a W:=by
 obtain ⟨s,rfl,hs⟩:=ha
 rw [r119]
 obtain ⟨e8,e19,e24,_⟩:=hs
 rw [e8,e19,e24]
 have x1:W.cell? ⟨gX,1,none⟩=some (.int .u8 13):=by rw [← h13];exact BX.at 1 _ rfl
 have r0:=BR.at 0 _ rfl
 have r1:=BR.at 1 _ rfl
 have rz:=BR.frozen
 refine zas ?_
 intro _ _ _ _
 go_wp2_with fail
 have BF:=(BR.set_ 0 (.int .i64 2)).set_ 1 (.slice none 0 0)
 exact bodyPost_ret (v := .tuple #[.agg #[.int .i64 2, .slice none 0 0], .slice SA sn sc, .bool true]) (zax Tryz.results8 rfl (run_loadVar_row (P:=Tryz.prog) _ _ _ _ _ _ _ BF Tryz.underlying53 rfl (by kernel_rfl)) rfl rfl) rfl (h _ ((OnlyB.setCell W gR 0 _).trans (OnlyB.setCell _ gR 1 _)))
theorem zic {W:World} {gR gX:Nat} {k:Sb.Pkt} {Mx:Option Addr} {cm:Nat} {Et:Option Addr} {ce:Nat} {Pl:Option Addr} {cp:Nat} {SA:Option Addr} {sn sc:Nat} {R:Ending→World→Prop} (BR:Blk W gR 53 #[.int .i64 0, .slice none 0 0]) (BX:Blk W gX 112 (k.rx Mx cm Et ce Pl cp).row) (h13:¬k.ty=13) (hsp:speechB k.ty=true) (hP:IntsAt W W.heap.size .u8 Pl k.pl) (hz:Within 0 255 k.pl) (hl:k.pl.length≤1500) (hcp:k.pl.length≤cp)
 (h:∀ (W1 W':World) (TA:Option Addr) (tc:Nat),Below W.heap.size W W1→IntsNew W.heap.size W1 .i16 TA (Sb.decS k.ty k.pl)→OnlyB gR W1 W'→R (.returned (.tuple #[.agg #[.int .i64 1, .slice TA (Sb.decS k.ty k.pl).length tc], .slice SA sn sc, .bool true])) W') (a:Act) (ha:Fr 119 [(8, .pointer (some ⟨gR,0,none⟩)),(19, .pointer (some ⟨gX,0,none⟩)),(24, .slice SA sn sc)] a):firstWp Tryz.prog hop15_code (bodyPost Tryz.prog Tryz.f8 R) a W:=by
 obtain ⟨s,rfl,hs⟩:=ha
 rw [r119]
 obtain ⟨e8,e19,e24,_⟩:=hs
 rw [e8,e19,e24]
 have x1:W.cell? ⟨gX,1,none⟩=some (.int .u8 k.ty):=BX.at 1 _ rfl
 have x9:W.cell? ⟨gX,9,none⟩=some (.slice Pl k.pl.length cp):=BX.at 9 _ rfl
 have kD:=Z9 (zcg k.ty hsp Pl k.pl _ cp rfl W hP hz (by omega) hcp)
 unfold Dec32R at kD
 generalize Sb.decS k.ty k.pl=zs at kD h
 generalize k.ty=ty at x1 kD h13
 generalize k.pl.length=n at x9 kD
 refine zas ?_
 intro _ _ _ _
 go_upto_region 17 with fail
 go_wp2_with fail
 refine kD.out.mono ?_
 rintro e w2 ⟨TA,tc,rfl,hI,hb⟩
 replace BR:=BR.later hb
 have HI:=Z9 hI
 have HB:=Z9 hb
 clear hI hb x1 x9 kD
 have r0:=BR.at 0 _ rfl
 have r1:=BR.at 1 _ rfl
 have rz:=BR.frozen
 go_wp2_with fail
 have BF:=(BR.set_ 0 (.int .i64 1)).set_ 1 (.slice TA zs.length tc)
 exact bodyPost_ret (v := .tuple #[.agg #[.int .i64 1, .slice TA zs.length tc], .slice SA sn sc, .bool true]) (zax Tryz.results8 rfl (run_loadVar_row (P:=Tryz.prog) _ _ _ _ _ _ _ BF Tryz.underlying53 rfl (by kernel_rfl)) rfl rfl) rfl (h w2 _ TA tc HB.out HI.out ((OnlyB.setCell w2 gR 0 _).trans (OnlyB.setCell _ gR 1 _)))
theorem zpb {w:World} {S:List Nat} {gf of_ gt ot:Nat} {tf tt:TypeId} {cf ct:List Value} {c:Int} {p u:Sb.Pt} {i:Nat} {tk:Option Sb.Sd} {A1:Option Addr} {c1:Nat} {A2:Option Addr} {n2 c2:Nat} {l2:List TW} {ZA:Option Addr} {zs:List Int} {zc:Nat} (C:HC w S gf of_ gt ot tf tt cf ct c p u i tk A1 c1 A2 n2 c2 l2 ZA zs) :
 Calls Tryz.prog 8 #[.pointer (some ⟨gf,of_,none⟩), .pointer (some ⟨gt,ot,none⟩), .slice ZA 160 zc, .int .i64 (20*(i:Int))] w (HopR S gf of_ gt ot tf tt cf ct c p i tk zs w):=by
 refine hopA C fun W a gR A1' c1' KA kc ks X hk1 hks K ha => ?_
 have hpl:(Sb.send0 p zs).2.length≤1:=by
  obtain ⟨sq,hh,hp,hu⟩:=C.hop.ex
  have hi:=C.i40
  obtain ⟨more,e1,e2,hp2,_⟩:=hp.step zs (by omega) C.zl C.zb
  omega
 by_cases hk0:ks=[]
 · subst hk0
   exact zue C X hk1 hks.symm a ha
 obtain ⟨t,rfl⟩:∃ t,ks=[t]:=List.length_eq_one_iff.1 (by
  have:0<ks.length:=List.length_pos_iff.2 hk0
  have h9:=congrArg List.length hks
  rw [List.length_map] at h9
  omega)
 obtain ⟨u',sds,hF,hJ,hr,hf2,hbd,hH,b1,b2,b3,b4,b5,b6,b7,b8⟩:=C.hop.step1 C.i40 zs C.zl C.zb t.k hks.symm
 have ok:t.k.ok:=⟨b1.1,b1.2,b2.1,b2.2,b3.1,b3.2,b4.1,b4.2,b5,b6⟩
 obtain ⟨t1,t2,t3,t4,t5⟩:=C.hop.lis C.i40
 have hi40:=C.i40
 have hseed:=t2.seed
 have hql:n2≤1:=by have h9:=congrArg List.length C.hq;rw [List.length_map,C.hn] at h9;omega
 have hsw:=C.sw
 refine zuf (ct:=ct) (now:=20*(i:Int)) X K ok (fun W a gX Mx cm Et ce Pl cp X BX hgX hcp HP ha => ?_) a ha
 refine zqw (u:=u) (u':=u') (sds:=sds) X C.lt C.pt BX hgX HP ?_ (fun V hV => ?_) (fun W a A2 n2 c2 l2 SA sn sc ls X q1 q2 q3 q4 HQ hls hsl HS BX HP ha => ?_) a ha
 · intro ch a d u w h;exact h
 · have RCC:RC V u A2 l2 n2 c2 (t.k.rx Mx cm Et ce Pl cp) (20*(i:Int)):=⟨C.hq,C.hn,by omega,C.hc,C.hm,X.q.wts.later hV,fun a ha=>zsy t4 a.w (by rw [← C.hq];exact List.mem_map_of_mem ha),t5,hseed.1,hseed.2,b1.1,Int.le_trans b1.2 (by decide),b2.1,b2.2,b3.1,b3.2,b6,HP.1.later hV,by omega,by omega⟩
   have h:=zdv RCC t2 rfl t1 b7 hF hJ
   have e:Sb.recv0 u (20*(i:Int)) (t.k.rx Mx cm Et ce Pl cp).arr=(u',1,sds):=hr
   rw [e] at h
   exact h
 have hb9:∀ a∈ls,Within (-32768) 32767 a.s.zs:=fun a ha=>hbd a.s (by rw [← hls];exact List.mem_map_of_mem ha)
 have hf9:Sb.F2 Sb.mG (ls.map TS.s) tk.toList:=by rw [hls];exact hf2
 have hgR:=X.br.lt
 by_cases h13:t.k.ty=13
 · rw [if_pos h13] at hH
   refine zjd X.br BX h13 (fun W' ho => ?_) a ha
   obtain ⟨f1,f2,f3,f4,f5,f6⟩:=X.fin HQ HS (IntsAv.nil (k := .i16) (A:=none)) ho
   exact ⟨_,u',A1',c1',A2,n2,c2,l2,2,none,0,0,[],SA,sn,sc,ls,_,rfl,rfl,hsl,⟨f1,hk1,f2,q1,q2,q3,q4,f3,hH, .noise,f5,hf9,f4,hb9,f6,fun h=>by cases h⟩⟩
 · rw [if_neg h13] at hH
   obtain ⟨d1,d2,d3⟩:=b8 h13
   have hsp:speechB t.k.ty=true:=by rcases b7 with h|h;exact h;exact absurd h h13
   refine zic X.br BX h13 hsp HP.1 b5 b6 hcp (fun W1 W' TA tc hb hI ho => ?_) a ha
   have hin:∀ x∈gR::S,x<W.heap.size:=fun x hx=>by
    rcases List.mem_cons.1 hx with e|hx
    · omega
    · have h1:=hsw x hx
      have h2:=X.ch.size
      omega
   obtain ⟨f1,f2,f3,f4,f5,f6⟩:=(X.later hb).fin (HQ.later hb) (HS.later hb) (IntsAv.of_new hI hin) ho
   have hty:=d1
   exact ⟨_,u',A1',c1',A2,n2,c2,l2,1,TA,_,tc,Sb.decS t.k.ty t.k.pl,SA,sn,sc,ls,_,rfl,rfl,hsl,⟨f1,hk1,f2,q1,q2,q3,q4,f3,hH,by rw [d1];exact .speech _ d3,f5,hf9,f4,hb9,f6,fun _=>by rw [d1,d2]⟩⟩
end Go.Proofs.YtbcgnddpkiemoaaGreat
namespace Go.Proofs.YtbcgnddpkiemoaaGreat
open Go.RowKit
structure PQ where
 p:Sb.Pt
 A:Option Addr
 n:Nat
 c:Nat
 l:List TW
def PQ.row (q:PQ):List Value:=PL q.p q.A q.n q.c
def PQ.zero:PQ:=⟨Sb.Pt.zero,none,0,0,[]⟩
theorem PQ.len (q:PQ):q.row.length=48:=rfl
def row4 (f:Nat→PQ):List Value:=(f 0).row++((f 1).row++((f 2).row++(f 3).row))
theorem zed (f:Nat→PQ):(row4 f).length=192:=rfl
def upd {α : Type} (f:Nat → α) (k:Nat) (x : α):Nat → α := fun j=>if j=k then x else f j
theorem zcn {α : Type} (f:Nat → α) (k:Nat) (x : α):upd f k x k=x:=if_pos rfl
theorem zco {α : Type} (f:Nat → α) (k j:Nat) (x : α) (h:j≠k):upd f k x j=f j:=if_neg h
theorem zcy (f:Nat→PQ) (k:Nat) (hk:k<4):partS (row4 f) (k*48) 48=(f k).row:=by
 have h:k=0∨k=1∨k=2∨k=3:=by omega
 rcases h with rfl|rfl|rfl|rfl<;>rfl
theorem zbo (f:Nat→PQ) (k:Nat) (hk:k<4) (x:PQ):overS (row4 f) (k*48) x.row=row4 (upd f k x):=by
 have h:k=0∨k=1∨k=2∨k=3:=by omega
 rcases h with rfl|rfl|rfl|rfl<;>rfl
structure TQ where
 kd:Int
 A:Option Addr
 c:Nat
 zs:List Int
def TQ.row (t:TQ):List Value:=[.int .i64 t.kd, .slice t.A t.zs.length t.c]
def TQ.zero:TQ:=⟨0,none,0,[]⟩
def tick4 (f:Nat→TQ):List Value:=(f 0).row++((f 1).row++((f 2).row++(f 3).row))
theorem zcb (f:Nat→TQ) (k:Nat) (hk:k<4) (x:TQ):overS (tick4 f) (k*2) x.row=tick4 (upd f k x):=by
 have h:k=0∨k=1∨k=2∨k=3:=by omega
 rcases h with rfl|rfl|rfl|rfl<;>rfl
structure VB where
 gC:Nat
 gL:Nat
 gm:Nat
 gi:Nat
 go:Nat
 ge:Nat
 gcf:Nat
 gsd:Nat
 gst:Nat
def VB.S (b:VB):List Nat:=[b.gm,b.gi,b.go,b.ge,b.gsd,b.gst]
structure VB.Ord (b:VB) (w:World):Prop where
 o0:w.heap.size≤b.gC
 o1:b.gC<b.gL
 o2:b.gL<b.gm
 o3:b.gm<b.gi
 o4:b.gi<b.go
 o5:b.go<b.ge
 o6:b.ge<b.gcf
 o7:b.gcf<b.gsd
 o8:b.gsd<b.gst
structure VM (w W:World) (b:VB) (F:List Nat) (cs ls:Nat→Int) (fm fi fo fe:Nat→PQ) (ts tt:Nat→TQ):Prop where
 ord:b.Ord w
 bC:Blk W b.gC 22 #[.int .u8 (cs 0), .int .u8 (cs 1), .int .u8 (cs 2), .int .u8 (cs 3)]
 bL:Blk W b.gL 24 #[.int .u16 (ls 0), .int .u16 (ls 1), .int .u16 (ls 2), .int .u16 (ls 3)]
 bm:Blk W b.gm 46 (row4 fm).toArray
 bi:Blk W b.gi 46 (row4 fi).toArray
 bo:Blk W b.go 46 (row4 fo).toArray
 be:Blk W b.ge 46 (row4 fe).toArray
 bs:Blk W b.gsd 54 (tick4 ts).toArray
 bt:Blk W b.gst 54 (tick4 tt).toArray
 qi:∀ k,k<4→QAv W (F++b.S) (fi k).A (fi k).l
 qe:∀ k,k<4→QAv W (F++b.S) (fe k).A (fe k).l
 ti:∀ k,k<4→IntsAv W (F++b.S) .i16 (ts k).A (ts k).zs
 te:∀ k,k<4→IntsAv W (F++b.S) .i16 (tt k).A (tt k).zs
 bel:Bel w W
 ft:∀ x∈F,b.gst<x∧x<W.heap.size
section
variable {w W W':World} {b:VB} {F G:List Nat} {cs ls:Nat→Int} {fm fi fo fe:Nat→PQ} {ts tt:Nat→TQ}
theorem VM.later (h:VM w W b F cs ls fm fi fo fe ts tt) (hb:Below W.heap.size W W'):VM w W' b F cs ls fm fi fo fe ts tt :=
 ⟨h.ord,h.bC.later hb,h.bL.later hb,h.bm.later hb,h.bi.later hb,h.bo.later hb,h.be.later hb,h.bs.later hb,h.bt.later hb,fun k hk=>(h.qi k hk).later hb,fun k hk=>(h.qe k hk).later hb,
  fun k hk=>(h.ti k hk).chg (T:=[]) (Chg.of_below hb) (by simp),fun k hk=>(h.te k hk).chg (T:=[]) (Chg.of_below hb) (by simp),h.bel.later hb,fun x hx=>⟨(h.ft x hx).1,Nat.lt_of_lt_of_le (h.ft x hx).2 hb.size⟩⟩
theorem VM.push (h:VM w W b F cs ls fm fi fo fe ts tt) (o:Obj):VM w (W.alloc o) b F cs ls fm fi fo fe ts tt:=h.later ((Below.refl _ _).alloc (Nat.le_refl _) _)
theorem VM.sub (h:VM w W b F cs ls fm fi fo fe ts tt) (hs:∀ x∈G,x∈F):VM w W b G cs ls fm fi fo fe ts tt:=by
 have hm:∀ x∈G++b.S,x∈F++b.S:=fun x hx=>by
  rcases List.mem_append.1 hx with h1|h1
  · exact List.mem_append_left _ (hs x h1)
  · exact List.mem_append_right _ h1
 exact ⟨h.ord,h.bC,h.bL,h.bm,h.bi,h.bo,h.be,h.bs,h.bt,fun k hk=>(h.qi k hk).sub hm,fun k hk=>(h.qe k hk).sub hm,fun k hk=>(h.ti k hk).sub hm,fun k hk=>(h.te k hk).sub hm,h.bel,fun x hx=>h.ft x (hs x hx)⟩
theorem VM.lts (h:VM w W b F cs ls fm fi fo fe ts tt):∀ x∈F++b.S,x<W.heap.size:=fun x hx=>by
 have h1:=h.bt.lt
 have o3:=h.ord.o3;have o4:=h.ord.o4;have o5:=h.ord.o5;have o6:=h.ord.o6;have o7:=h.ord.o7;have o8:=h.ord.o8
 rcases List.mem_append.1 hx with h2|h2
 · exact (h.ft x h2).2
 · simp [VB.S] at h2;omega
theorem VM.add (h:VM w W b F cs ls fm fi fo fe ts tt) (o:Obj):VM w (W.alloc o) b (W.heap.size::F) cs ls fm fi fo fe ts tt:=by
 have hb:=(Below.refl W.heap.size W).alloc (Nat.le_refl _) o
 have h1:=h.push o
 have hl:=h.bt.lt
 refine ⟨h1.ord,h1.bC,h1.bL,h1.bm,h1.bi,h1.bo,h1.be,h1.bs,h1.bt,fun k hk=>((h.qi k hk).add (Nat.le_refl _)).later hb,fun k hk=>((h.qe k hk).add (Nat.le_refl _)).later hb,
  fun k hk=>((h.ti k hk).add (Nat.le_refl _)).chg (T:=[]) (Chg.of_below hb) (by simp),fun k hk=>((h.te k hk).add (Nat.le_refl _)).chg (T:=[]) (Chg.of_below hb) (by simp),h1.bel,fun x hx => ?_⟩
 rcases List.mem_cons.1 hx with e|hx
 · rw [e];exact ⟨hl,by simp⟩
 · exact h1.ft x hx
theorem VM.setF (h:VM w W b F cs ls fm fi fo fe ts tt) {g:Nat} (hg:g∈F) (ho:OnlyB g W W'):VM w W' b F cs ls fm fi fo fe ts tt:=by
 have hgt:=h.ft g hg
 have o0:=h.ord.o0;have o1:=h.ord.o1;have o2:=h.ord.o2;have o3:=h.ord.o3;have o4:=h.ord.o4;have o5:=h.ord.o5;have o6:=h.ord.o6;have o7:=h.ord.o7;have o8:=h.ord.o8
 have hc:Chg [g] W W':=Chg.of_only ho (by simp)
 have hm:∀ x ∈ [g],x∈F++b.S:=by intro x hx;simp at hx;rw [hx];exact List.mem_append_left _ hg
 exact ⟨h.ord,ho.blk h.bC (by omega),ho.blk h.bL (by omega),ho.blk h.bm (by omega),ho.blk h.bi (by omega),ho.blk h.bo (by omega),ho.blk h.be (by omega),ho.blk h.bs (by omega),ho.blk h.bt (by omega),
  fun k hk=>(h.qi k hk).chg hc hm,fun k hk=>(h.qe k hk).chg hc hm,fun k hk=>(h.ti k hk).chg hc hm,fun k hk=>(h.te k hk).chg hc hm,ho.bel h.bel (by omega),fun x hx=>⟨(h.ft x hx).1,by rw [ho.2];exact (h.ft x hx).2⟩⟩
theorem VM.setS (h:VM w W b F cs ls fm fi fo fe ts tt) (k:Nat) (t:TQ) (ho:OnlyB b.gsd W W') (hB:Blk W' b.gsd 54 (tick4 (upd ts k t)).toArray) (ht:IntsAv W (F++b.S) .i16 t.A t.zs):VM w W' b F cs ls fm fi fo fe (upd ts k t) tt:=by
 have o0:=h.ord.o0;have o1:=h.ord.o1;have o2:=h.ord.o2;have o3:=h.ord.o3;have o4:=h.ord.o4;have o5:=h.ord.o5;have o6:=h.ord.o6;have o7:=h.ord.o7;have o8:=h.ord.o8
 have hc:Chg [b.gsd] W W':=Chg.of_only ho (by simp)
 have hm:∀ x ∈ [b.gsd],x∈F++b.S:=by intro x hx;simp at hx;rw [hx];exact List.mem_append_right _ (by simp [VB.S])
 refine ⟨h.ord,ho.blk h.bC (by omega),ho.blk h.bL (by omega),ho.blk h.bm (by omega),ho.blk h.bi (by omega),ho.blk h.bo (by omega),ho.blk h.be (by omega),hB,ho.blk h.bt (by omega),
  fun k hk=>(h.qi k hk).chg hc hm,fun k hk=>(h.qe k hk).chg hc hm,fun j hj => ?_,fun k hk=>(h.te k hk).chg hc hm,ho.bel h.bel (by omega),fun x hx=>⟨(h.ft x hx).1,by rw [ho.2];exact (h.ft x hx).2⟩⟩
 unfold upd
 split
 · exact ht.chg hc hm
 · exact (h.ti j hj).chg hc hm
theorem VM.setT (h:VM w W b F cs ls fm fi fo fe ts tt) (k:Nat) (t:TQ) (ho:OnlyB b.gst W W') (hB:Blk W' b.gst 54 (tick4 (upd tt k t)).toArray) (ht:IntsAv W (F++b.S) .i16 t.A t.zs):VM w W' b F cs ls fm fi fo fe ts (upd tt k t):=by
 have o0:=h.ord.o0;have o1:=h.ord.o1;have o2:=h.ord.o2;have o3:=h.ord.o3;have o4:=h.ord.o4;have o5:=h.ord.o5;have o6:=h.ord.o6;have o7:=h.ord.o7;have o8:=h.ord.o8
 have hc:Chg [b.gst] W W':=Chg.of_only ho (by simp)
 have hm:∀ x ∈ [b.gst],x∈F++b.S:=by intro x hx;simp at hx;rw [hx];exact List.mem_append_right _ (by simp [VB.S])
 refine ⟨h.ord,ho.blk h.bC (by omega),ho.blk h.bL (by omega),ho.blk h.bm (by omega),ho.blk h.bi (by omega),ho.blk h.bo (by omega),ho.blk h.be (by omega),ho.blk h.bs (by omega),hB,
  fun k hk=>(h.qi k hk).chg hc hm,fun k hk=>(h.qe k hk).chg hc hm,fun k hk=>(h.ti k hk).chg hc hm,fun j hj => ?_,ho.bel h.bel (by omega),fun x hx=>⟨(h.ft x hx).1,by rw [ho.2];exact (h.ft x hx).2⟩⟩
 unfold upd
 split
 · exact ht.chg hc hm
 · exact (h.te j hj).chg hc hm
theorem VM.hopI (h:VM w W b F cs ls fm fi fo fe ts tt) (k:Nat) (m u:PQ) (hc:Chg [b.gm,b.gi] W W') (h1:Blk W' b.gm 46 (row4 (upd fm k m)).toArray) (h2:Blk W' b.gi 46 (row4 (upd fi k u)).toArray) (hq:QAv W' (F++b.S) u.A u.l):VM w W' b F cs ls (upd fm k m) (upd fi k u) fo fe ts tt:=by
 have o0:=h.ord.o0;have o1:=h.ord.o1;have o2:=h.ord.o2;have o3:=h.ord.o3;have o4:=h.ord.o4;have o5:=h.ord.o5;have o6:=h.ord.o6;have o7:=h.ord.o7;have o8:=h.ord.o8
 have hm:∀ x ∈ [b.gm,b.gi],x∈F++b.S:=by intro x hx;simp at hx;exact List.mem_append_right _ (by rcases hx with e|e<;>simp [VB.S,e])
 refine ⟨h.ord,hc.blk h.bC (by simp;omega),hc.blk h.bL (by simp;omega),h1,h2,hc.blk h.bo (by simp;omega),hc.blk h.be (by simp;omega),hc.blk h.bs (by simp;omega),hc.blk h.bt (by simp;omega),
  fun j hj => ?_,fun k hk=>(h.qe k hk).chg hc hm,fun k hk=>(h.ti k hk).chg hc hm,fun k hk=>(h.te k hk).chg hc hm,hc.bel h.bel (by intro x hx;simp at hx;omega),fun x hx=>⟨(h.ft x hx).1,Nat.lt_of_lt_of_le (h.ft x hx).2 hc.size⟩⟩
 unfold upd
 split
 · exact hq
 · exact (h.qi j hj).chg hc hm
theorem VM.hopE (h:VM w W b F cs ls fm fi fo fe ts tt) (k:Nat) (m u:PQ) (hc:Chg [b.go,b.ge] W W') (h1:Blk W' b.go 46 (row4 (upd fo k m)).toArray) (h2:Blk W' b.ge 46 (row4 (upd fe k u)).toArray) (hq:QAv W' (F++b.S) u.A u.l):VM w W' b F cs ls fm fi (upd fo k m) (upd fe k u) ts tt:=by
 have o0:=h.ord.o0;have o1:=h.ord.o1;have o2:=h.ord.o2;have o3:=h.ord.o3;have o4:=h.ord.o4;have o5:=h.ord.o5;have o6:=h.ord.o6;have o7:=h.ord.o7;have o8:=h.ord.o8
 have hm:∀ x ∈ [b.go,b.ge],x∈F++b.S:=by intro x hx;simp at hx;exact List.mem_append_right _ (by rcases hx with e|e<;>simp [VB.S,e])
 refine ⟨h.ord,hc.blk h.bC (by simp;omega),hc.blk h.bL (by simp;omega),hc.blk h.bm (by simp;omega),hc.blk h.bi (by simp;omega),h1,h2,hc.blk h.bs (by simp;omega),hc.blk h.bt (by simp;omega),
  fun k hk=>(h.qi k hk).chg hc hm,fun j hj => ?_,fun k hk=>(h.ti k hk).chg hc hm,fun k hk=>(h.te k hk).chg hc hm,hc.bel h.bel (by intro x hx;simp at hx;omega),fun x hx=>⟨(h.ft x hx).1,Nat.lt_of_lt_of_le (h.ft x hx).2 hc.size⟩⟩
 unfold upd
 split
 · exact hq
 · exact (h.qe j hj).chg hc hm
end
structure PairI (c:Int) (m u:PQ) (t:TQ) (i:Nat):Prop where
 ex:∃ tk,Sb.Hop c m.p u.p i tk∧Sb.TkK (20*(i:Int)) t.kd t.zs tk
 mn:m.n=0
 mc:m.c≤maxLen
 q:u.l.map TW.w=u.p.jt.q
 len:u.l.length=u.n
 cap:u.n≤u.c
 cm:u.c≤maxLen
end Go.Proofs.YtbcgnddpkiemoaaGreat
namespace Go.Proofs.YtbcgnddpkiemoaaGreat
attribute [local go_sem ↓] zab zac
attribute [local go_sem] zaa zad
open Go.RowKit
structure IntsLH (w:World) (lo hi:Nat) (k:IntKind) (A:Option Addr) (zs:List Int):Prop where
 at_:IntsAt w hi k A zs
 low:0<zs.length→∀ b off,A=some ⟨b,off,none⟩→lo≤b
section
variable {w w':World} {lo hi:Nat} {k:IntKind} {A:Option Addr} {zs:List Int}
theorem IntsLH.keep (h:IntsLH w lo hi k A zs) (hk:∀ p:Addr,lo≤p.block→p.block<hi→w'.cell? p=w.cell? p):IntsLH w' lo hi k A zs:=by
 refine ⟨fun h0 => ?_,h.low⟩
 obtain ⟨b,off,e,hb,hc⟩:=h.at_ h0
 have hlo:=h.low h0 b off e
 exact ⟨b,off,e,hb,fun i hi=>(hk _ hlo hb).trans (hc i hi)⟩
theorem IntsLH.onlyN {g:Nat} (h:IntsLH w lo hi k A zs) (ho:OnlyB g w w') (hg:g<lo∨hi≤g):IntsLH w' lo hi k A zs:=h.keep fun p h1 h2=>ho.cell (by omega)
theorem IntsLH.below (h:IntsLH w lo hi k A zs) {B:Nat} (hb:Below B w w') (hB:hi≤B):IntsLH w' lo hi k A zs:=h.keep fun q _ hq=>hb.cell (by omega)
theorem IntsLH.more {hi':Nat} (h:IntsLH w lo hi k A zs) (hl:hi≤hi'):IntsLH w lo hi' k A zs:=⟨h.at_.more hl,h.low⟩
theorem IntsLH.less {lo':Nat} (h:IntsLH w lo hi k A zs) (hl:lo'≤lo):IntsLH w lo' hi k A zs:=⟨h.at_,fun h0 b off e=>Nat.le_trans hl (h.low h0 b off e)⟩
end
noncomputable def vr40_code:Code:=((Tryz.f3.body.bind (findRegS 40)).getD .skip)
theorem zuy {s0 s1 s2 s4 s5 s6 s7 s8 s9 s10 s11 s12 s13 s14 s15 s16 s17 s18 s19 s20 s21 s22 s23 s24 s25 s26 s27 s29 s31 s32 s33 s34 s35 s36 s37 s38 s39 s40 s41 s42 s43 s44 s45 s46 s47 s48 s49 s50 s51 s52 s53 s54 s55 s56 s57 s58 s59 s60 s61 s62 s63 s64 s65 s66 s67 s68 s69 s70 s71 s72 s73 s74 s75 s76 s77 s78 s79 s80 s81 s82 s83 s84 s85 s86 s87 s88 s89 s90 s91 s92 s93 s94 s95 s96 s97 s98 s99 s100 s101 s102 s103 s104 s105 s106 s107 s108 s109 s110 s111 s112 s113 s114 s115 s116 s117 s118 s119 s120 s121 s122 s123 s124 s125 s126 s127 s128 s129 s130 s131 s132 s133 s134 s135 s136 s137 s138 s139 s140 s141 s142 s143 s144 s145 s146 s147 s148 s149 s150 s151 s152 s153 s154 s155 s156 s157 s158 s159 s160 s161 s162 s163 s164 s165 s166 s167 s168 s169 s170 s171 s172 s173 s174 s175 s176 s177 s178 s179 s180 s181 s182 s183 s184 s185 s186 s187 s188 s189 s190 s191 s192 s193 s194 s195 s196 s197 s198 s199 s200 s201 s202 s203 s204 s205 s206 s207 s208 s209 s210 s211 s212 s213 s214 s215 s216 s217 s218 s219 s220 s221 s222 s223 s224 s225 s226 s227 s228 s229 s230 s231 s232 s233 s234 s235 s236 s237 s238 s239 s240 s241 s242 s243 s244 s245 s246 s247 s248 s249 s250 s251 s252 s253 s254 s255 s256:Value} {Q:Exit→Act→World→Prop} (gC gM k n:Nat) (hk0:(0:Int)≤(k:Int)) (hk4:(k:Int)<4) (hkn:(k:Int)<(n:Int)) (x c:Int) (ZA:Option Addr) (zc:Nat) (bs:List Int) (es:Int×Int) (W:World) (xl:W.cell? ⟨gC,k,none⟩=some (.int .u8 x)) (xm:W.cell? ⟨gM,k,none⟩=some (.slice ZA 160 zc)) (kC:∀ V:World,Calls Tryz.prog 6 #[.int .u8 x] V fun e w'=>e = .returned (.int .u8 c)∧Below V.heap.size V w') (kE:∀ V:World,Below W.heap.size W V→Calls Tryz.prog 13 #[.int .u8 c, .slice ZA 160 zc, .agg #[.int .i64 0, .int .i64 0]] V (Enc32R bs es V)) (hQp:∀ (ch:_) (a:Act) (d:Tmp) (u:Value) (w:World),Q (.panic ch) (a.put (some d) u) w→Q (.panic ch) a w)
 (h:∀ (wx:World) (g3:Nat) (A':Option Addr) (c':Nat) (u230 u231 u232 u233 u234 u235 u236 u237 u238 u239 u240 u241 u242:Value),bs.length≤c'→Hid (IntsLH wx W.heap.size wx.heap.size .u8 A' bs)→Hid (Below W.heap.size W wx)→Q .normal ⟨#[s0,s1,s2, .pointer (some ⟨gC,0,none⟩),s4,s5,s6,s7,s8,s9,s10,s11,s12,s13,s14,s15,s16,s17,s18,s19,s20,s21,s22,s23,s24,s25,s26,s27, .slice (some ⟨gM,0,none⟩) n n,s29, .int .i64 (k:Int),s31,s32,s33, .slice A' bs.length c', .pointer (some ⟨g3,0,none⟩),s36,s37,s38,s39,s40,s41,s42,s43,s44,s45,s46,s47,s48,s49,s50,s51,s52,s53,s54,s55,s56,s57,s58,s59,s60,s61,s62,s63,s64,s65,s66,s67,s68,s69,s70,s71,s72,s73,s74,s75,s76,s77,s78,s79,s80,s81,s82,s83,s84,s85,s86,s87,s88,s89,s90,s91,s92,s93,s94,s95,s96,s97,s98,s99,s100,s101,s102,s103,s104,s105,s106,s107,s108,s109,s110,s111,s112,s113,s114,s115,s116,s117,s118,s119,s120,s121,s122,s123,s124,s125,s126,s127,s128,s129,s130,s131,s132,s133,s134,s135,s136,s137,s138,s139,s140,s141,s142,s143,s144,s145,s146,s147,s148,s149,s150,s151,s152,s153,s154,s155,s156,s157,s158,s159,s160,s161,s162,s163,s164,s165,s166,s167,s168,s169,s170,s171,s172,s173,s174,s175,s176,s177,s178,s179,s180,s181,s182,s183,s184,s185,s186,s187,s188,s189,s190,s191,s192,s193,s194,s195,s196,s197,s198,s199,s200,s201,s202,s203,s204,s205,s206,s207,s208,s209,s210,s211,s212,s213,s214,s215,s216,s217,s218,s219,s220,s221,s222,s223,s224,s225,s226,s227,s228,s229,u230,u231,u232,u233,u234,u235,u236,u237,u238,u239,u240,u241,u242,s243,s244,s245,s246,s247,s248,s249,s250,s251,s252,s253,s254,s255,s256],[]⟩ wx):vr40_code.wp Tryz.prog Q ⟨#[s0,s1,s2, .pointer (some ⟨gC,0,none⟩),s4,s5,s6,s7,s8,s9,s10,s11,s12,s13,s14,s15,s16,s17,s18,s19,s20,s21,s22,s23,s24,s25,s26,s27, .slice (some ⟨gM,0,none⟩) n n,s29, .int .i64 (k:Int),s31,s32,s33,s34,s35,s36,s37,s38,s39,s40,s41,s42,s43,s44,s45,s46,s47,s48,s49,s50,s51,s52,s53,s54,s55,s56,s57,s58,s59,s60,s61,s62,s63,s64,s65,s66,s67,s68,s69,s70,s71,s72,s73,s74,s75,s76,s77,s78,s79,s80,s81,s82,s83,s84,s85,s86,s87,s88,s89,s90,s91,s92,s93,s94,s95,s96,s97,s98,s99,s100,s101,s102,s103,s104,s105,s106,s107,s108,s109,s110,s111,s112,s113,s114,s115,s116,s117,s118,s119,s120,s121,s122,s123,s124,s125,s126,s127,s128,s129,s130,s131,s132,s133,s134,s135,s136,s137,s138,s139,s140,s141,s142,s143,s144,s145,s146,s147,s148,s149,s150,s151,s152,s153,s154,s155,s156,s157,s158,s159,s160,s161,s162,s163,s164,s165,s166,s167,s168,s169,s170,s171,s172,s173,s174,s175,s176,s177,s178,s179,s180,s181,s182,s183,s184,s185,s186,s187,s188,s189,s190,s191,s192,s193,s194,s195,s196,s197,s198,s199,s200,s201,s202,s203,s204,s205,s206,s207,s208,s209,s210,s211,s212,s213,s214,s215,s216,s217,s218,s219,s220,s221,s222,s223,s224,s225,s226,s227,s228,s229,s230,s231,s232,s233,s234,s235,s236,s237,s238,s239,s240,s241,s242,s243,s244,s245,s246,s247,s248,s249,s250,s251,s252,s253,s254,s255,s256],[]⟩ W:=by
 replace kC:=Z9 kC
 replace kE:=Z9 kE
 have hq:=Z9 h
 clear h
 conv=>arg 2;whnf
 refine wp_region_held_drew (S:=fun w'=>Below W.heap.size W w') (by kernel_rfl) (Below.drew (Below.refl _ _)) (fun qH => ?_)
 obtain ⟨X,hX⟩:∃ X,X=W.drew:=⟨_,rfl⟩
 rw [← hX] at qH ⊢
 clear hX
 refine tk1 (i:=0) (v:=?_) rfl (Or.inl ⟨by rfl,?_⟩) qH ?_ (hQ:=q9 hQp)
 rotate_left
 · (intro w hSw;clear hSw;go_simp;try with_reducible rfl)
 try simp only [ss9]
 refine tk1 (i:=1) (v:=?_) rfl (Or.inl ⟨by rfl,?_⟩) qH ?_ (hQ:=q9 hQp)
 rotate_left
 · (intro w hSw;clear hSw;go_simp;try with_reducible rfl)
 try simp only [ss9]
 refine tk1 (i:=2) (v:=?_) rfl (Or.inl ⟨by rfl,?_⟩) qH ?_ (hQ:=q9 hQp)
 rotate_left
 · (intro w hSw;have c0:=zag hSw xl;clear hSw;go_simp;try with_reducible rfl)
 try simp only [ss9]
 refine tk1 (i:=4) (v:=?_) rfl (Or.inl ⟨by rfl,?_⟩) qH ?_ (hQ:=q9 hQp)
 rotate_left
 · (intro w hSw;clear hSw;go_simp;try with_reducible rfl)
 try simp only [ss9]
 refine tk1 (i:=5) (v:=?_) rfl (Or.inl ⟨by rfl,?_⟩) qH ?_ (hQ:=q9 hQp)
 rotate_left
 · (intro w hSw;clear hSw;go_simp;try with_reducible rfl)
 try simp only [ss9]
 refine tk1 (i:=6) (v:=?_) rfl (Or.inl ⟨by rfl,?_⟩) qH ?_ (hQ:=q9 hQp)
 rotate_left
 · (intro w hSw;clear hSw;go_simp;try with_reducible rfl)
 try simp only [ss9]
 refine tk1 (i:=7) (v:=?_) rfl (Or.inl ⟨by rfl,?_⟩) qH ?_ (hQ:=q9 hQp)
 rotate_left
 · (intro w hSw;have c0:=zag hSw xm;clear hSw;go_simp;try with_reducible rfl)
 try simp only [ss9]
 refine tk1 (i:=8) (v:=?_) rfl (Or.inl ⟨by rfl,?_⟩) qH ?_ (hQ:=q9 hQp)
 rotate_left
 · (intro w hSw;clear hSw;go_simp;try with_reducible rfl)
 try simp only [ss9]
 all_goals try
  fail_if_success (have hx:=HD)
  refine wpAnyH_ready (rs:=[3,13]) (by kernel_rfl) (by simp) ?_
  refine AllReadyH.cons (o:=_) rfl (fun K hK => ?_) (AllReadyH.cons (o:=_) rfl (fun K hK => ?_) AllReadyH.nil)
  rotate_left
  go_simp
  have HD:Hid (Blk (X.alloc (Obj.cells #[.int .i64 0, .int .i64 0] 30)) X.heap.size 30 (([.int .i64 0, .int .i64 0]:List Value)).toArray):=Z9 (Blk.new _ _ _)
  have hg8:W.heap.size≤X.heap.size:=qH.size
  obtain ⟨g8,hgg⟩:∃ g,g=X.heap.size:=⟨_,rfl⟩
  refine hK.out _ _ ?_ (fun qH => ?_)
  · exact zah qH _
  clear hK K
  try simp only [ss9]
  rw [← hgg] at HD hg8 ⊢
  have HGG:=Z9 hgg
  clear hgg
  obtain ⟨Y,hY⟩:∃ V,V=X.alloc (Obj.cells #[.int .i64 0, .int .i64 0] 30):=⟨_,rfl⟩
  rw [← hY] at HD qH ⊢
  clear hY
  obtain ⟨X,hX⟩:∃ X,X=Y:=⟨_,rfl⟩
  subst hX
 all_goals try
  refine wpAnyH_ready (rs:=[3]) (by kernel_rfl) (by simp) ?_
  refine AllReadyH.cons (o:=_) rfl (fun K hK => ?_) AllReadyH.nil
 all_goals
  go_simp
  try have HCS:=Z9 HD.out.lt
  refine (kC.out _).mono ?_
  rintro e X ⟨rfl,hb1⟩
  try replace HD:=Z9 (HD.out.later hb1)
  refine hK.out _ _ ?_ (fun qH => ?_)
  · exact zak hb1 qH
  clear hK K hb1
  try simp only [ss9]
 all_goals try
  fail_if_success (have hx:=HD)
  refine wpAnyH_ready (rs:=[9,13]) (by kernel_rfl) (by simp) ?_
  refine AllReadyH.cons (o:=_) rfl (fun K hK => ?_) (AllReadyH.cons (o:=_) rfl (fun K hK => ?_) AllReadyH.nil)
  rotate_left
  go_simp
  have HD:Hid (Blk (X.alloc (Obj.cells #[.int .i64 0, .int .i64 0] 30)) X.heap.size 30 (([.int .i64 0, .int .i64 0]:List Value)).toArray):=Z9 (Blk.new _ _ _)
  have hg8:W.heap.size≤X.heap.size:=qH.size
  obtain ⟨g8,hgg⟩:∃ g,g=X.heap.size:=⟨_,rfl⟩
  refine hK.out _ _ ?_ (fun qH => ?_)
  · exact zah qH _
  clear hK K
  try simp only [ss9]
  rw [← hgg] at HD hg8 ⊢
  have HGG:=Z9 hgg
  clear hgg
  obtain ⟨Y,hY⟩:∃ V,V=X.alloc (Obj.cells #[.int .i64 0, .int .i64 0] 30):=⟨_,rfl⟩
  rw [← hY] at HD qH ⊢
  clear hY
  obtain ⟨X,hX⟩:∃ X,X=Y:=⟨_,rfl⟩
  subst hX
 all_goals try
  refine wpAnyH_ready (rs:=[9]) (by kernel_rfl) (by simp) ?_
  refine AllReadyH.cons (o:=_) rfl (fun K hK => ?_) AllReadyH.nil
 all_goals
  go_simp
  try have HCS:=Z9 HD.out.lt
  have hlo:=qH.size
  refine (kE.out _ qH).mono ?_
  rintro e X ⟨A',c',rfl,hcc,hI,hb2⟩
  have HI:=Z9 (show IntsLH X _ X.heap.size .u8 A' bs from ⟨hI.1,hI.2⟩)
  clear hI
  try replace HD:=Z9 (HD.out.later hb2)
  refine hK.out _ _ ?_ (fun qH => ?_)
  · exact zak hb2 qH
  clear hK K hb2
  try simp only [ss9]
 all_goals
  refine tk1 (i:=10) (v:=?_) rfl (Or.inl ⟨by rfl,?_⟩) qH ?_ (hQ:=q9 hQp)
  rotate_left
  · (intro w hSw;clear hSw;go_simp;try with_reducible rfl)
  try simp only [ss9]
  refine tk1 (i:=11) (v:=?_) rfl (Or.inl ⟨by rfl,?_⟩) qH ?_ (hQ:=q9 hQp)
  rotate_left
  · (intro w hSw;clear hSw;go_simp;try with_reducible rfl)
  try simp only [ss9]
  refine tk1 (i:=12) (v:=?_) rfl (Or.inl ⟨by rfl,?_⟩) qH ?_ (hQ:=q9 hQp)
  rotate_left
  · (intro w hSw;clear hSw;go_simp;try with_reducible rfl)
  try simp only [ss9]
 all_goals try
  fail_if_success (have hx:=HD)
  refine wpAnyH_ready (rs:=[13]) (by kernel_rfl) (by simp) ?_
  refine AllReadyH.cons (o:=_) rfl (fun K hK => ?_) AllReadyH.nil
  go_simp
  have HD:Hid (Blk (X.alloc (Obj.cells #[.int .i64 0, .int .i64 0] 30)) X.heap.size 30 (([.int .i64 0, .int .i64 0]:List Value)).toArray):=Z9 (Blk.new _ _ _)
  have hg8:W.heap.size≤X.heap.size:=qH.size
  obtain ⟨g8,hgg⟩:∃ g,g=X.heap.size:=⟨_,rfl⟩
  replace HI:=Z9 (HI.out.below ((Below.refl _ _).alloc (Nat.le_refl _) (Obj.cells #[.int .i64 0, .int .i64 0] 30)) (Nat.le_refl _))
  refine hK.out _ _ ?_ (fun qH => ?_)
  · exact zah qH _
  clear hK K
  try simp only [ss9]
  rw [← hgg] at HD hg8 ⊢
  have HGG:=Z9 hgg
  clear hgg
  obtain ⟨Y,hY⟩:∃ V,V=X.alloc (Obj.cells #[.int .i64 0, .int .i64 0] 30):=⟨_,rfl⟩
  rw [← hY] at HD qH HI ⊢
  clear hY
  obtain ⟨X,hX⟩:∃ X,X=Y:=⟨_,rfl⟩
  subst hX
 all_goals
  refine tk1 (i:=14) (v:=?_) rfl (Or.inl ⟨by rfl,?_⟩) qH ?_ (hQ:=q9 hQp)
  rotate_left
  · (intro w hSw;clear hSw;go_simp;try with_reducible rfl)
  try simp only [ss9]
  refine wpAnyH_ready (rs:=[15]) (by kernel_rfl) (by simp) ?_
  refine AllReadyH.cons (o:=_) rfl (fun K hK => ?_) AllReadyH.nil
  refine zal rfl 30 (.tmp 35) (.tmp 242) rfl g8 0 rfl 30 _ HD.out ([.int .i64 es.1, .int .i64 es.2]) rfl zgn (Nat.le_refl 2) rfl ([.int .i64 es.1, .int .i64 es.2]) rfl ?_
  intro WF BF OF
  have HF:=OF.bel (show Bel W X from qH) hg8
  refine hK.out _ _ HF (fun qH => ?_)
  clear hK K
  try simp only [ss9]
  refine wpAnyH_done (by kernel_rfl) ?_ _
  exact hq.out WF g8 A' c' _ _ _ _ _ _ _ _ _ _ _ _ _ hcc (Z9 (((HI.out.onlyN OF (by first|exact Or.inl HCS.out|exact Or.inr (by rw [HGG.out];exact Nat.le_refl _))).more (by rw [OF.2];first|exact Nat.le_refl _|(have h1:=HD.out.lt;have h2:=HGG.out;omega))).less hlo)) (Z9 HF)
theorem IntsLH.ne_blk {w:World} {lo hi g:Nat} {k:IntKind} {A:Option Addr} {zs:List Int} (h:IntsLH w lo hi k A zs) (hg:g<lo∨hi≤g) (h0:0<zs.length) (b off:Nat) (e:A=some ⟨b,off,none⟩):b≠g:=by
 have h1:=h.low h0 b off e
 obtain ⟨b',off',e',h2,_⟩:=h.at_ h0
 rw [e] at e';injection e' with e';injection e' with e1 _
 omega
theorem zpc:(Tryz.prog.info? 255).map (·.size)=some 10:=by kernel_rfl
noncomputable def sn7_code:Code:=((Tryz.f75.body.bind (findRegS 7)).getD .skip)
theorem zwv {s5 s6 s7 s8 s9 s10 s11 s12 s13 s14 s15 s16 s17 s18 s19 s20 s21 s22 s23 s24 s25 s26 s27 s28 s29 s30 s31 s32 s33 s34 s35 s36 s37 s38 s39 s40 s41 s42 s43 s44 s45 s46 s47 s48 s49 s50 s51 s52 s53 s54 s55 s56 s57 s58 s59 s60 s61 s62 s63 s64 s65 s66 s67 s68 s69 s70 s71 s72 s73 s74 s75 s76 s77 s78 s79 s80 s81 s82 s83 s84 s85 s86 s87 s88 s89 s90 s91 s92 s93 s94 s95 s96 s97 s98 s99 s100 s101 s102 s103 s104 s105:Value} {Q:Exit→Act→World→Prop} (gc:Nat) (no now:Int) (A:Option Addr) (c:Nat) (zs:List Int) (W:World) (x3:W.cell? ⟨gc,3,none⟩=some (.int .i64 no)) (kC:∀ V:World,Below W.heap.size W V→Calls Tryz.prog 107 #[.slice A zs.length c] V (CloneI zs V)) (hQp:∀ (ch:_) (a:Act) (d:Tmp) (u:Value) (w:World),Q (.panic ch) (a.put (some d) u) w→Q (.panic ch) a w)
 (h:∀ (wx:World) (g3:Nat) (A':Option Addr) (c':Nat) (u30 u31 u32 u33 u34 u35 u36 u37 u38 u39:Value),zs.length≤c'→Hid (IntsLH wx W.heap.size wx.heap.size .u8 A' zs)→W.heap.size≤g3→Hid (Blk wx g3 255 #[.bool false, .int .i64 0, .bool false, .int .i64 0, .int .i64 no, .string { data := #[97] }, .string { data := #[98] }, .int .i64 now, .bool false, .slice A' zs.length c'])→(0<zs.length→∀ b off,A'=some ⟨b,off,none⟩→b≠g3)→Hid (Below W.heap.size W wx)→Q .normal ⟨#[.pointer (some ⟨gc,0,none⟩), .string { data := #[97] }, .string { data := #[98] }, .slice A zs.length c, .int .i64 now,s5,s6,s7,s8,s9,s10,s11, .pointer (some ⟨g3,0,none⟩),s13,s14,s15,s16,s17,s18,s19,s20,s21,s22,s23,s24,s25,s26,s27,s28,s29,u30,u31,u32,u33,u34,u35,u36,u37,u38,u39,s40,s41,s42,s43,s44,s45,s46,s47,s48,s49,s50,s51,s52,s53,s54,s55,s56,s57,s58,s59,s60,s61,s62,s63,s64,s65,s66,s67,s68,s69,s70,s71,s72,s73,s74,s75,s76,s77,s78,s79,s80,s81,s82,s83,s84,s85,s86,s87,s88,s89,s90,s91,s92,s93,s94,s95,s96,s97,s98,s99,s100,s101,s102,s103,s104,s105],[]⟩ wx):sn7_code.wp Tryz.prog Q ⟨#[.pointer (some ⟨gc,0,none⟩), .string { data := #[97] }, .string { data := #[98] }, .slice A zs.length c, .int .i64 now,s5,s6,s7,s8,s9,s10,s11,s12,s13,s14,s15,s16,s17,s18,s19,s20,s21,s22,s23,s24,s25,s26,s27,s28,s29,s30,s31,s32,s33,s34,s35,s36,s37,s38,s39,s40,s41,s42,s43,s44,s45,s46,s47,s48,s49,s50,s51,s52,s53,s54,s55,s56,s57,s58,s59,s60,s61,s62,s63,s64,s65,s66,s67,s68,s69,s70,s71,s72,s73,s74,s75,s76,s77,s78,s79,s80,s81,s82,s83,s84,s85,s86,s87,s88,s89,s90,s91,s92,s93,s94,s95,s96,s97,s98,s99,s100,s101,s102,s103,s104,s105],[]⟩ W:=by
 replace kC:=Z9 kC
 have hq:=Z9 h
 clear h
 conv=>arg 2;whnf
 refine wp_region_held_drew (S:=fun w'=>Below W.heap.size W w') (by kernel_rfl) (Below.drew (Below.refl _ _)) (fun qH => ?_)
 obtain ⟨X,hX⟩:∃ X,X=W.drew:=⟨_,rfl⟩
 rw [← hX] at qH ⊢
 clear hX
 refine tk1 (i:=0) (v:=?_) rfl (Or.inl ⟨by rfl,?_⟩) qH ?_ (hQ:=q9 hQp)
 rotate_left
 · (intro w hSw;clear hSw;go_simp;try with_reducible rfl)
 try simp only [ss9]
 refine tk1 (i:=1) (v:=?_) rfl (Or.inl ⟨by rfl,?_⟩) qH ?_ (hQ:=q9 hQp)
 rotate_left
 · (intro w hSw;clear hSw;go_simp;try with_reducible rfl)
 try simp only [ss9]
 refine tk1 (i:=2) (v:=?_) rfl (Or.inl ⟨by rfl,?_⟩) qH ?_ (hQ:=q9 hQp)
 rotate_left
 · (intro w hSw;clear hSw;go_simp;try with_reducible rfl)
 try simp only [ss9]
 refine tk1 (i:=3) (v:=?_) rfl (Or.inl ⟨by rfl,?_⟩) qH ?_ (hQ:=q9 hQp)
 rotate_left
 · (intro w hSw;have c0:=zag hSw x3;clear hSw;go_simp;try with_reducible rfl)
 try simp only [ss9]
 refine tk1 (i:=4) (v:=?_) rfl (Or.inl ⟨by rfl,?_⟩) qH ?_ (hQ:=q9 hQp)
 rotate_left
 · (intro w hSw;clear hSw;go_simp;try with_reducible rfl)
 try simp only [ss9]
 refine tk1 (i:=5) (v:=?_) rfl (Or.inl ⟨by rfl,?_⟩) qH ?_ (hQ:=q9 hQp)
 rotate_left
 · (intro w hSw;clear hSw;go_simp;try with_reducible rfl)
 try simp only [ss9]
 refine tk1 (i:=6) (v:=?_) rfl (Or.inl ⟨by rfl,?_⟩) qH ?_ (hQ:=q9 hQp)
 rotate_left
 · (intro w hSw;clear hSw;go_simp;try with_reducible rfl)
 try simp only [ss9]
 refine tk1 (i:=7) (v:=?_) rfl (Or.inl ⟨by rfl,?_⟩) qH ?_ (hQ:=q9 hQp)
 rotate_left
 · (intro w hSw;clear hSw;go_simp;try with_reducible rfl)
 try simp only [ss9]
 all_goals try
  fail_if_success (have hx:=HD)
  refine wpAnyH_ready (rs:=[8,10]) (by kernel_rfl) (by simp) ?_
  refine AllReadyH.cons (o:=_) rfl (fun K hK => ?_) (AllReadyH.cons (o:=_) rfl (fun K hK => ?_) AllReadyH.nil)
  rotate_left
  go_simp
  have HD:Hid (Blk (X.alloc (Obj.cells #[.bool false, .int .i64 0, .bool false, .int .i64 0, .int .i64 0, .string { data := #[] }, .string { data := #[] }, .int .i64 0, .bool false, .slice none 0 0] 255)) X.heap.size 255 (([.bool false, .int .i64 0, .bool false, .int .i64 0, .int .i64 0, .string { data := #[] }, .string { data := #[] }, .int .i64 0, .bool false, .slice none 0 0]:List Value)).toArray):=Z9 (Blk.new _ _ _)
  have hg8:W.heap.size≤X.heap.size:=qH.size
  obtain ⟨g8,hgg⟩:∃ g,g=X.heap.size:=⟨_,rfl⟩
  refine hK.out _ _ ?_ (fun qH => ?_)
  · exact zah qH _
  clear hK K
  try simp only [ss9]
  rw [← hgg] at HD hg8 ⊢
  have HGG:=Z9 hgg
  clear hgg
  obtain ⟨Y,hY⟩:∃ V,V=X.alloc (Obj.cells #[.bool false, .int .i64 0, .bool false, .int .i64 0, .int .i64 0, .string { data := #[] }, .string { data := #[] }, .int .i64 0, .bool false, .slice none 0 0] 255):=⟨_,rfl⟩
  rw [← hY] at HD qH ⊢
  clear hY
  obtain ⟨X,hX⟩:∃ X,X=Y:=⟨_,rfl⟩
  subst hX
 all_goals try
  refine wpAnyH_ready (rs:=[8]) (by kernel_rfl) (by simp) ?_
  refine AllReadyH.cons (o:=_) rfl (fun K hK => ?_) AllReadyH.nil
 all_goals
  go_simp
  try have HCS:=Z9 HD.out.lt
  have hlo:=qH.size
  refine (kC.out _ qH).mono ?_
  rintro e X ⟨A',c',rfl,hcc,hI,hb1⟩
  have HI:=Z9 (show IntsLH X _ X.heap.size .u8 A' zs from ⟨hI.1,hI.2⟩)
  clear hI
  try replace HD:=Z9 (HD.out.later hb1)
  refine hK.out _ _ ?_ (fun qH => ?_)
  · exact zak hb1 qH
  clear hK K hb1
  try simp only [ss9]
 all_goals
  refine tk1 (i:=9) (v:=?_) rfl (Or.inl ⟨by rfl,?_⟩) qH ?_ (hQ:=q9 hQp)
  rotate_left
  · (intro w hSw;clear hSw;go_simp;try with_reducible rfl)
  try simp only [ss9]
 all_goals try
  fail_if_success (have hx:=HD)
  refine wpAnyH_ready (rs:=[10]) (by kernel_rfl) (by simp) ?_
  refine AllReadyH.cons (o:=_) rfl (fun K hK => ?_) AllReadyH.nil
  go_simp
  have HD:Hid (Blk (X.alloc (Obj.cells #[.bool false, .int .i64 0, .bool false, .int .i64 0, .int .i64 0, .string { data := #[] }, .string { data := #[] }, .int .i64 0, .bool false, .slice none 0 0] 255)) X.heap.size 255 (([.bool false, .int .i64 0, .bool false, .int .i64 0, .int .i64 0, .string { data := #[] }, .string { data := #[] }, .int .i64 0, .bool false, .slice none 0 0]:List Value)).toArray):=Z9 (Blk.new _ _ _)
  have hg8:W.heap.size≤X.heap.size:=qH.size
  obtain ⟨g8,hgg⟩:∃ g,g=X.heap.size:=⟨_,rfl⟩
  replace HI:=Z9 (HI.out.below ((Below.refl _ _).alloc (Nat.le_refl _) (Obj.cells #[.bool false, .int .i64 0, .bool false, .int .i64 0, .int .i64 0, .string { data := #[] }, .string { data := #[] }, .int .i64 0, .bool false, .slice none 0 0] 255)) (Nat.le_refl _))
  refine hK.out _ _ ?_ (fun qH => ?_)
  · exact zah qH _
  clear hK K
  try simp only [ss9]
  rw [← hgg] at HD hg8 ⊢
  have HGG:=Z9 hgg
  clear hgg
  obtain ⟨Y,hY⟩:∃ V,V=X.alloc (Obj.cells #[.bool false, .int .i64 0, .bool false, .int .i64 0, .int .i64 0, .string { data := #[] }, .string { data := #[] }, .int .i64 0, .bool false, .slice none 0 0] 255):=⟨_,rfl⟩
  rw [← hY] at HD qH HI ⊢
  clear hY
  obtain ⟨X,hX⟩:∃ X,X=Y:=⟨_,rfl⟩
  subst hX
 all_goals
  refine wpAnyH_ready (rs:=[11]) (by kernel_rfl) (by simp) ?_
  refine AllReadyH.cons (o:=_) rfl (fun K hK => ?_) AllReadyH.nil
  refine zal rfl 255 (.tmp 12) (.tmp 39) rfl g8 0 rfl 255 _ HD.out ([.bool false, .int .i64 0, .bool false, .int .i64 0, .int .i64 no, .string { data := #[97] }, .string { data := #[98] }, .int .i64 now, .bool false, .slice A' zs.length c']) rfl zpc (Nat.le_refl 10) rfl ([.bool false, .int .i64 0, .bool false, .int .i64 0, .int .i64 no, .string { data := #[97] }, .string { data := #[98] }, .int .i64 now, .bool false, .slice A' zs.length c']) rfl ?_
  intro WF BF OF
  have HF:=OF.bel (show Bel W X from qH) hg8
  refine hK.out _ _ HF (fun qH => ?_)
  clear hK K
  try simp only [ss9]
  refine wpAnyH_done (by kernel_rfl) ?_ _
  have hne9:0<zs.length→∀ b off,A'=some ⟨b,off,none⟩→b≠g8:=fun h0 b off e=>HI.out.ne_blk (by first|exact Or.inl HCS.out|exact Or.inr (by rw [HGG.out];exact Nat.le_refl _)) h0 b off e
  exact hq.out WF g8 A' c' _ _ _ _ _ _ _ _ _ _ hcc (Z9 (((HI.out.onlyN OF (by first|exact Or.inl HCS.out|exact Or.inr (by rw [HGG.out];exact Nat.le_refl _))).more (by rw [OF.2];first|exact Nat.le_refl _|(have h1:=HD.out.lt;have h2:=HGG.out;omega))).less hlo)) hg8 (Z9 BF) hne9 (Z9 HF)
theorem r106 (s:Nat→Value):((List.range 106).map s).toArray = #[s 0,s 1,s 2,s 3,s 4,s 5,s 6,s 7,s 8,s 9,s 10,s 11,s 12,s 13,s 14,s 15,s 16,s 17,s 18,s 19,s 20,s 21,s 22,s 23,s 24,s 25,s 26,s 27,s 28,s 29,s 30,s 31,s 32,s 33,s 34,s 35,s 36,s 37,s 38,s 39,s 40,s 41,s 42,s 43,s 44,s 45,s 46,s 47,s 48,s 49,s 50,s 51,s 52,s 53,s 54,s 55,s 56,s 57,s 58,s 59,s 60,s 61,s 62,s 63,s 64,s 65,s 66,s 67,s 68,s 69,s 70,s 71,s 72,s 73,s 74,s 75,s 76,s 77,s 78,s 79,s 80,s 81,s 82,s 83,s 84,s 85,s 86,s 87,s 88,s 89,s 90,s 91,s 92,s 93,s 94,s 95,s 96,s 97,s 98,s 99,s 100,s 101,s 102,s 103,s 104,s 105]:=rfl
structure SdS (W:World) (gc g3 base:Nat) (k:Ca) (pc:Pc):Prop where
 bc:Blk W gc 253 k.row.toArray
 b3:Blk W g3 255 pc.row.toArray
 own:Owns W base 255 10 k.pA k.ps.length k.pc (k.ps.flatMap Pc.row)
 ne:ownB k.pA≠some gc
 ne3:ownB k.pA≠some g3
 gne:gc≠g3
 hb:base≤W.heap.size
def FSd (gc g3:Nat) (now:Int):List (Nat×Value):=[(0, .pointer (some ⟨gc,0,none⟩)),(4, .int .i64 now),(12, .pointer (some ⟨g3,0,none⟩))]
noncomputable def sd15_code:Code:=((Tryz.f75.body.bind (fromReg 15)).getD .skip)
noncomputable def sd16_code:Code:=((Tryz.f75.body.bind (fromReg 16)).getD .skip)
theorem SdS.app {W V W' W'':World} {gc g3 base:Nat} {k:Ca} {pc:Pc} {An:Option Addr} {cn:Nat} (X:SdS W gc g3 base k pc) (hV:Below W.heap.size W V) (ho:Owns W' base 255 10 An (k.ps.length+1) cn (k.ps.flatMap Pc.row++pc.row)) (hg:V.grownBy W' (ownB k.pA)) (hat:ownB An=ownB k.pA∨∀ g,ownB An=some g→V.heap.size≤g) (hs:OnlyB gc W' W'') (hB:Blk W'' gc 253 (Ca.row { k with pA:=An,pc:=cn,ps:=k.ps ++ [pc] }).toArray) :
 SdS W'' gc g3 base { k with pA:=An,pc:=cn,ps:=k.ps ++ [pc] } pc∧Chg (gc::(ownB k.pA).toList) W W''∧(ownB An=ownB k.pA∨∀ g,ownB An=some g→W.heap.size≤g):=by
 have hgc:=X.bc.lt
 have hg3:=X.b3.lt
 have hsz:=hV.size
 have n1:∀ g,g<V.heap.size→ownB k.pA≠some g→ownB An≠some g:=fun g hlt h e=>by
  rcases hat with e2|e2
  · exact h (e2 ▸ e)
  · have:=e2 g e;omega
 refine ⟨⟨hB,hs.blk ((X.b3.later hV).grown hg (fun e=>X.ne3 e.symm)) X.gne.symm,?_,n1 gc (by omega) X.ne,n1 g3 (by omega) X.ne3,X.gne,?_⟩,?_,?_⟩
 · have h1:=(Chg.of_only hs (S:=[gc]) (by simp)).owns ho (fun q hq hx=>by simp at hx;rw [hx] at hq;exact n1 gc (by omega) X.ne hq)
   simpa using h1
 · have:=X.hb;have:=hg.size;have:=hs.2;omega
 · exact (Chg.of_below hV).trans ((Chg.of_grown hg (fun q e => .inl (by rw [e];simp))).trans (Chg.of_only hs (by simp)))
 · rcases hat with e|e
   · exact .inl e
   · exact .inr fun g hg=>Nat.le_trans hsz (e g hg)
theorem zuz {R:Ending→World→Prop} {W:World} {gc g3 base:Nat} {k:Ca} {p:Pc} {now:Int} (X:SdS W gc g3 base k p) (hl:k.ps.length≤1000)
 (h:∀ (W':World) (a:Act) (An:Option Addr) (cn:Nat),SdS W' gc g3 base { k with pA:=An,pc:=cn,ps:=k.ps ++ [p] } p→Chg (gc::(ownB k.pA).toList) W W'→(ownB An=ownB k.pA∨∀ g,ownB An=some g→W.heap.size≤g)→Fr 106 (FSd gc g3 now) a→firstWp Tryz.prog sd16_code (bodyPost Tryz.prog Tryz.f75 R) a W') (a:Act) (ha:Fr 106 (FSd gc g3 now) a):firstWp Tryz.prog sd15_code (bodyPost Tryz.prog Tryz.f75 R) a W:=by
 obtain ⟨s,rfl,hs9⟩:=ha
 rw [r106]
 obtain ⟨e0,e4,e12,_⟩:=hs9
 rw [e0,e4,e12]
 have y0:W.cell? ⟨g3,0,none⟩=some (.bool p.f.lost):=X.b3.at 0 _ rfl
 have y1:W.cell? ⟨g3,1,none⟩=some (.int .i64 p.f.d):=X.b3.at 1 _ rfl
 have y2:W.cell? ⟨g3,2,none⟩=some (.bool p.f.again):=X.b3.at 2 _ rfl
 have y3:W.cell? ⟨g3,3,none⟩=some (.int .i64 p.f.ad):=X.b3.at 3 _ rfl
 have y4:W.cell? ⟨g3,4,none⟩=some (.int .i64 p.no):=X.b3.at 4 _ rfl
 have y5:W.cell? ⟨g3,5,none⟩=some (.string { data := #[97] }):=X.b3.at 5 _ rfl
 have y6:W.cell? ⟨g3,6,none⟩=some (.string { data := #[98] }):=X.b3.at 6 _ rfl
 have y7:W.cell? ⟨g3,7,none⟩=some (.int .i64 p.sent):=X.b3.at 7 _ rfl
 have y8:W.cell? ⟨g3,8,none⟩=some (.bool p.second):=X.b3.at 8 _ rfl
 have y9:W.cell? ⟨g3,9,none⟩=some (.slice p.A p.zs.length p.c):=X.b3.at 9 _ rfl
 have x2:W.cell? ⟨gc,2,none⟩=some (.slice k.pA k.ps.length k.pc):=X.bc.at 2 _ rfl
 have x2a:(W.alloc (.cells #[.bool p.f.lost, .int .i64 p.f.d, .bool p.f.again, .int .i64 p.f.ad, .int .i64 p.no, .string { data := #[97] }, .string { data := #[98] }, .int .i64 p.sent, .bool p.second, .slice p.A p.zs.length p.c] 255)).cell? ⟨gc,2,none⟩=some (.slice k.pA k.ps.length k.pc):=(X.bc.push _).at 2 _ rfl
 have hj1:k.ps.length+1≤maxLen:=by unfold maxLen;omega
 have hj2:(k.ps.length+1)*112≤140737488355328:=by omega
 have hbs:=X.hb
 have HX:=Z9 X
 clear X
 refine zaq ?_
 intro _ _
 go_upto_region 15 with fail
 go_region_law (first|((refine zbx 87 (by rfl) (by rfl) _ _ 251 (by rfl) base 255 10 112 _ Tryz.underlying251 zdh rfl (by decide) k.pA k.ps.length k.pc (k.ps.flatMap Pc.row) (by rfl) (Owns.alloc HX.out.own.drew _) W.heap.size [.bool p.f.lost, .int .i64 p.f.d, .bool p.f.again, .int .i64 p.f.ad, .int .i64 p.no, .string { data := #[97] }, .string { data := #[98] }, .int .i64 p.sent, .bool p.second, .slice p.A p.zs.length p.c] rfl (by simp [Value.oneCell']) (by rfl) ((Blk.new W 255 _).drew) hj1 hj2 (by simp;omega) ?_);intro An cn wn qo hgr hat;have bcn:=((HX.out.bc.drew.push (.cells #[.bool p.f.lost, .int .i64 p.f.d, .bool p.f.again, .int .i64 p.f.ad, .int .i64 p.no, .string { data := #[97] }, .string { data := #[98] }, .int .i64 p.sent, .bool p.second, .slice p.A p.zs.length p.c] 255)).grown hgr (fun e=>HX.out.ne e.symm));have x2n:wn.cell? ⟨gc,2,none⟩=some (.slice k.pA k.ps.length k.pc):=bcn.at 2 _ rfl;have f2n:=bcn.frozen 2;have hgn:=bcn.lt;have HBN:=Z9 bcn;have HON:=Z9 qo;have HGR:=Z9 hgr;have HAT:=Z9 hat;clear bcn qo hgr hat))
 all_goals
  obtain ⟨W9,hW9⟩:∃ V,V=wn.setCell ⟨gc,2,none⟩ (.slice An (k.ps.length+1) cn):=⟨_,rfl⟩
  have o9:OnlyB gc wn W9:=by rw [hW9];exact OnlyB.setCell _ _ _ _
  have b9:Blk W9 gc 253 (Ca.row { k with pA:=An,pc:=cn,ps:=k.ps ++ [p] }).toArray:=by
   rw [hW9]
   have h9:=HBN.out.set_ 2 (.slice An (k.ps.length+1) cn)
   have e9:(k.ps ++ [p]).length=k.ps.length+1:=by simp
   unfold Ca.row
   simp only [e9]
   exact h9
  obtain ⟨r1,r2,r3⟩:=HX.out.app (V:=(World.drew W).alloc (.cells #[.bool p.f.lost, .int .i64 p.f.d, .bool p.f.again, .int .i64 p.f.ad, .int .i64 p.no, .string { data := #[97] }, .string { data := #[98] }, .int .i64 p.sent, .bool p.second, .slice p.A p.zs.length p.c] 255)) (zah (Below.drew (Below.refl _ _)) _) HON.out HGR.out HAT.out o9 b9
  rw [← hW9]
  clear hW9 o9 b9 x2n f2n HBN HON HGR HAT
  go_upto_region 16 with fail
  refine zbh (by assumption) (by assumption) ?_
  exact h _ _ An cn r1 r2 r3 (Fr.mk rfl ⟨rfl,rfl,rfl,trivial⟩)
theorem zva {R:Ending→World→Prop} {W:World} {gc g3 base:Nat} {k:Ca} {p:Pc} {now:Int} (X:SdS W gc g3 base k p) (hl:k.ps.length≤1000)
 (h0:p.f.again=false→R (.returned (.tuple #[.int .i64 p.no, .int .u8 0])) W)
 (h1:p.f.again=true→∀ (W':World) (An:Option Addr) (cn:Nat),SdS W' gc g3 base { k with pA:=An,pc:=cn,ps:=k.ps ++ [{ p with second:=true }] } { p with second:=true } → Chg (g3::gc::(ownB k.pA).toList) W W'→(ownB An=ownB k.pA∨∀ g,ownB An=some g→W.heap.size≤g)→R (.returned (.tuple #[.int .i64 p.no, .int .u8 0])) W')
 (a:Act) (ha:Fr 106 (FSd gc g3 now) a):firstWp Tryz.prog sd16_code (bodyPost Tryz.prog Tryz.f75 R) a W:=by
 obtain ⟨s,rfl,hs9⟩:=ha
 rw [r106]
 obtain ⟨e0,e4,e12,_⟩:=hs9
 rw [e0,e4,e12]
 have y2:W.cell? ⟨g3,2,none⟩=some (.bool p.f.again):=X.b3.at 2 _ rfl
 have y4:W.cell? ⟨g3,4,none⟩=some (.int .i64 p.no):=X.b3.at 4 _ rfl
 have y8:W.cell? ⟨g3,8,none⟩=some (.bool p.second):=X.b3.at 8 _ rfl
 have f8:=X.b3.frozen 8
 have hg3:=X.b3.lt
 by_cases hag:p.f.again=true
 rotate_left
 · have hag2:p.f.again=false:=by simpa using hag
   rw [hag2] at y2
   refine zas ?_
   intro _ _ _ _
   go_upto_region 19 with fail
   go_wp2_with fail
   exact h0 hag2
 rw [hag] at y2
 have HX0:=Z9 X
 clear X
 refine zas ?_
 intro _ _ _ _
 go_upto_region 18 with fail
 obtain ⟨V,hV⟩:∃ V,V=W.setCell ⟨g3,8,none⟩ (.bool true):=⟨_,rfl⟩
 have oV:OnlyB g3 W V:=by rw [hV];exact OnlyB.setCell _ _ _ _
 have b3V:Blk V g3 255 (Pc.row { p with second:=true }).toArray:=by rw [hV];exact HX0.out.b3.set_ 8 _
 rw [← hV]
 clear hV y2 y4 y8 f8
 have XV:SdS V gc g3 base k { p with second:=true } := ⟨oV.blk HX0.out.bc HX0.out.gne,b3V,(Chg.of_only oV (S:=[g3]) (by simp)).owns HX0.out.own (fun q hq hx=>by simp at hx;rw [hx] at hq;exact HX0.out.ne3 hq),HX0.out.ne,HX0.out.ne3,HX0.out.gne,by have:=HX0.out.hb;have:=oV.2;omega⟩
 have CV:Chg [g3] W V:=Chg.of_only oV (by simp)
 obtain ⟨p2,hp2⟩:∃ p2,p2=({ p with second:=true } : Pc):=⟨_,rfl⟩
 have hno:p2.no=p.no:=by rw [hp2]
 rw [← hp2] at XV b3V
 have HP2:=Z9 hp2
 have HNO:=Z9 hno
 have HCV:=Z9 CV
 have hsV:=Z9 oV.2
 clear hp2 hno oV b3V CV hg3
 have y0:V.cell? ⟨g3,0,none⟩=some (.bool p2.f.lost):=XV.b3.at 0 _ rfl
 have y1:V.cell? ⟨g3,1,none⟩=some (.int .i64 p2.f.d):=XV.b3.at 1 _ rfl
 have y2:V.cell? ⟨g3,2,none⟩=some (.bool p2.f.again):=XV.b3.at 2 _ rfl
 have y3:V.cell? ⟨g3,3,none⟩=some (.int .i64 p2.f.ad):=XV.b3.at 3 _ rfl
 have y4:V.cell? ⟨g3,4,none⟩=some (.int .i64 p2.no):=XV.b3.at 4 _ rfl
 have y5:V.cell? ⟨g3,5,none⟩=some (.string { data := #[97] }):=XV.b3.at 5 _ rfl
 have y6:V.cell? ⟨g3,6,none⟩=some (.string { data := #[98] }):=XV.b3.at 6 _ rfl
 have y7:V.cell? ⟨g3,7,none⟩=some (.int .i64 p2.sent):=XV.b3.at 7 _ rfl
 have y8:V.cell? ⟨g3,8,none⟩=some (.bool p2.second):=XV.b3.at 8 _ rfl
 have y9:V.cell? ⟨g3,9,none⟩=some (.slice p2.A p2.zs.length p2.c):=XV.b3.at 9 _ rfl
 have x2:V.cell? ⟨gc,2,none⟩=some (.slice k.pA k.ps.length k.pc):=XV.bc.at 2 _ rfl
 have x2a:(V.alloc (.cells #[.bool p2.f.lost, .int .i64 p2.f.d, .bool p2.f.again, .int .i64 p2.f.ad, .int .i64 p2.no, .string { data := #[97] }, .string { data := #[98] }, .int .i64 p2.sent, .bool p2.second, .slice p2.A p2.zs.length p2.c] 255)).cell? ⟨gc,2,none⟩=some (.slice k.pA k.ps.length k.pc):=(XV.bc.push _).at 2 _ rfl
 have hj1:k.ps.length+1≤maxLen:=by unfold maxLen;omega
 have hj2:(k.ps.length+1)*112≤140737488355328:=by omega
 have hbs:=XV.hb
 have HX:=Z9 XV
 clear XV
 go_region_law (first|((refine zbx 101 (by rfl) (by rfl) _ _ 251 (by rfl) base 255 10 112 _ Tryz.underlying251 zdh rfl (by decide) k.pA k.ps.length k.pc (k.ps.flatMap Pc.row) (by rfl) (Owns.alloc HX.out.own.drew _) V.heap.size [.bool p2.f.lost, .int .i64 p2.f.d, .bool p2.f.again, .int .i64 p2.f.ad, .int .i64 p2.no, .string { data := #[97] }, .string { data := #[98] }, .int .i64 p2.sent, .bool p2.second, .slice p2.A p2.zs.length p2.c] rfl (by simp [Value.oneCell']) (by rfl) ((Blk.new V 255 _).drew) hj1 hj2 (by simp;omega) ?_);intro An cn wn qo hgr hat;have bcn:=((HX.out.bc.drew.push (.cells #[.bool p2.f.lost, .int .i64 p2.f.d, .bool p2.f.again, .int .i64 p2.f.ad, .int .i64 p2.no, .string { data := #[97] }, .string { data := #[98] }, .int .i64 p2.sent, .bool p2.second, .slice p2.A p2.zs.length p2.c] 255)).grown hgr (fun e=>HX.out.ne e.symm));have x2n:wn.cell? ⟨gc,2,none⟩=some (.slice k.pA k.ps.length k.pc):=bcn.at 2 _ rfl;have f2n:=bcn.frozen 2;have hgn:=bcn.lt;have HBN:=Z9 bcn;have HON:=Z9 qo;have HGR:=Z9 hgr;have HAT:=Z9 hat;clear bcn qo hgr hat))
 all_goals
  obtain ⟨W9,hW9⟩:∃ V,V=wn.setCell ⟨gc,2,none⟩ (.slice An (k.ps.length+1) cn):=⟨_,rfl⟩
  have o9:OnlyB gc wn W9:=by rw [hW9];exact OnlyB.setCell _ _ _ _
  have b9:Blk W9 gc 253 (Ca.row { k with pA:=An,pc:=cn,ps:=k.ps ++ [p2] }).toArray:=by
   rw [hW9]
   have h9:=HBN.out.set_ 2 (.slice An (k.ps.length+1) cn)
   have e9:(k.ps ++ [p2]).length=k.ps.length+1:=by simp
   unfold Ca.row
   simp only [e9]
   exact h9
  obtain ⟨r1,r2,r3⟩:=HX.out.app (V:=(World.drew V).alloc (.cells #[.bool p2.f.lost, .int .i64 p2.f.d, .bool p2.f.again, .int .i64 p2.f.ad, .int .i64 p2.no, .string { data := #[97] }, .string { data := #[98] }, .int .i64 p2.sent, .bool p2.second, .slice p2.A p2.zs.length p2.c] 255)) (zah (Below.drew (Below.refl _ _)) _) HON.out HGR.out HAT.out o9 b9
  rw [← hW9]
  clear hW9 o9 b9 x2n f2n HBN HON HGR HAT y0 y1 y2 y3 y4 y5 y6 y7 y8 y9 x2 x2a
  have z4:W9.cell? ⟨g3,4,none⟩=some (.int .i64 p2.no):=r1.b3.at 4 _ rfl
  go_upto_region 19 with fail
  go_wp2_with fail
  have e:=HP2.out
  subst e
  exact h1 hag W9 An cn r1 ((HCV.out.more (fun x hx=>by simp at hx;simp [hx])).trans (r2.more (fun x hx=>List.mem_cons_of_mem _ hx))) (by rw [← hsV.out];exact r3)
def fateOf (k:Ca):Ft:=k.fs.getD k.sent.toNat ⟨false,0,false,0⟩
def copies (f:Ft) (no now:Int) (A:Option Addr) (c:Nat) (zs:List Int):List Pc:=if f.lost then [] else ⟨f,no,now,false,A,c,zs⟩::(if f.again then [⟨f,no,now,true,A,c,zs⟩] else [])
def SendC (S:List Nat) (base gc:Nat) (k:Ca) (zs:List Int) (now:Int) (W:World) (e:Ending) (w':World):Prop:=∃ (S':List Nat) (k':Ca) (A':Option Addr) (c':Nat),e = .returned (.tuple #[.int .i64 k.sent, .int .u8 0])∧CaM w' S' base gc k'∧Mv (gc::(ownB k.pA).toList) S W S' w'∧k'.sent=k.sent+1∧k'.now=now∧k'.fs=k.fs∧(ownB k'.pA=ownB k.pA∨∀ g,ownB k'.pA=some g→W.heap.size≤g)∧zs.length≤c'∧k'.ps=k.ps++copies (fateOf k) k.sent now A' c' zs
noncomputable def sd10_code:Code:=((Tryz.f75.body.bind (fromReg 10)).getD .skip)
theorem zvb {gc base:Nat} {S:List Nat} {k:Ca} {A:Option Addr} {c:Nat} {zs:List Int} {now:Int} {W:World} (M:CaM W S base gc k) (hI:IntsAt W W.heap.size .u8 A zs) (h0:0<zs.length) (hl:zs.length≤2000) (n0:k.now≤now) (n1:0≤now) (n2:now≤1000000) (s0:0≤k.sent) (s1:k.sent<10000) (hf:k.fs.length≤2000) {R:Ending→World→Prop}
 (h:∀ (W':World) (a:Act) (g3:Nat) (A':Option Addr) (c':Nat),CaM W' (g3::S) base gc k→Blk W' g3 255 (Pc.row ⟨fateOf k,k.sent,now,false,A',c',zs⟩).toArray→W.heap.size≤g3→zs.length≤c'→IntsAt W' W'.heap.size .u8 A' zs→(0<zs.length→∀ b off,A'=some ⟨b,off,none⟩→W.heap.size≤b∧b≠g3)→Below W.heap.size W W'→Fr 106 (FSd gc g3 now) a→firstWp Tryz.prog sd10_code (bodyPost Tryz.prog Tryz.f75 R) a W') :
 Calls Tryz.prog 75 #[.pointer (some ⟨gc,0,none⟩), .string { data := #[97] }, .string { data := #[98] }, .slice A zs.length c, .int .i64 now] W R:=by
 have c0:W.cell? ⟨gc,0,none⟩=some (.bool true):=M.blk.at 0 _ rfl
 have c3:W.cell? ⟨gc,3,none⟩=some (.int .i64 k.sent):=M.blk.at 3 _ rfl
 have c5:W.cell? ⟨gc,5,none⟩=some (.int .i64 k.now):=M.blk.at 5 _ rfl
 have kz:=Z9 fun (V:World) h=>zdg gc V h
 have kc:=Z9 fun (V:World) (hV:Below W.heap.size W V)=>zfz A c zs V ((hI.keep (fun _ hp=>hV.cell hp)).more hV.size) h0 hl
 have t1:¬now<k.now:=by omega
 have t2:¬now > 1099511627776:=by omega
 have t3:¬k.sent ≥ 10000:=by omega
 have HM:=Z9 M
 have hgcl:=M.blk.lt
 have HQ:=Z9 (fun q hq=>(M.own.block q hq).2)
 clear M hI
 go_enter Tryz.func75,Tryz.ntmps75
 go_wp2_with fail
 refine (kz.out _ c0).mono ?_
 rintro e w0 ⟨rfl,rfl⟩
 go_upto_region 7 with fail
 refine zwv gc k.sent now A c zs w0 c3 kc.out ?_ ?_
 · intro ch a d u w h;exact h
 intro wx g3 A' c' u30 u31 u32 u33 u34 u35 u36 u37 u38 u39 hcc HI hg3 HBF hne9 HBB
 replace HM:=Z9 (HM.out.mv (Mv.add HBB.out hg3 HBF.out.lt) (by simp) (by simp))
 clear c0 c3 c5 t1 t2 t3 kc kz
 have c1:wx.cell? ⟨gc,1,none⟩=some (.slice k.fA k.fs.length k.fc):=HM.out.blk.at 1 _ rfl
 have y4:wx.cell? ⟨g3,4,none⟩=some (.int .i64 k.sent):=HBF.out.at 4 _ rfl
 go_upto_region 8 with fail
 go_region
 obtain ⟨m,hm⟩:∃ m:Nat,k.sent=(m:Int):=⟨k.sent.toNat,by omega⟩
 rw [hm] at y4
 by_cases hmf:m<k.fs.length
 rotate_left
 · have hi2:¬(m:Int)<(k.fs.length:Int):=by omega
   have hff:fateOf k=⟨false,0,false,0⟩:=by unfold fateOf;rw [hm,Int.toNat_natCast,List.getD_eq_getElem?_getD,List.getElem?_eq_none (by omega)];rfl
   have HB2:=Below.drew HBB.out
   have HM2:=Z9 (HM.out.mv (Mv.below (Below.drew (Below.refl wx.heap.size wx))) (by simp) (by simp))
   have hfin:=h wx.drew
   go_upto_region 10 with fail
   refine zan (by assumption) ?_
   refine hfin _ g3 A' c' HM2.out (by rw [hff];exact HBF.out.drew) hg3 hcc HI.out.at_ (fun q0 b off e=>⟨HI.out.low q0 b off e,hne9 q0 b off e⟩) HB2 (Fr.mk rfl ⟨rfl,rfl,rfl,trivial⟩)
 obtain ⟨f,hfm⟩:∃ f,k.fs[m]? = some f:=⟨_,List.getElem?_eq_getElem hmf⟩
 have hff:fateOf k=f:=by unfold fateOf;rw [hm,Int.toNat_natCast,List.getD_eq_getElem?_getD,hfm];rfl
 obtain ⟨b,off,hAb,hbW,z0,z1,z2,z3⟩:=znr HM.out.fts.1 hfm
 have hi0:(0:Int)≤(m:Int):=by omega
 have hi2:(m:Int)<(k.fs.length:Int):=by omega
 have y0:wx.cell? ⟨g3,0,none⟩=some (.bool false):=HBF.out.at 0 _ rfl
 have y1:wx.cell? ⟨g3,1,none⟩=some (.int .i64 0):=HBF.out.at 1 _ rfl
 have y2:wx.cell? ⟨g3,2,none⟩=some (.bool false):=HBF.out.at 2 _ rfl
 have y3:wx.cell? ⟨g3,3,none⟩=some (.int .i64 0):=HBF.out.at 3 _ rfl
 have q0:=HBF.out.frozen 0
 have q1:=HBF.out.frozen 1
 have q2:=HBF.out.frozen 2
 have q3:=HBF.out.frozen 3
 have hl3:=HBF.out.lt
 rw [hAb] at c1
 have HFM:=Z9 hfm
 have HFF:=Z9 hff
 have HAB:=Z9 hAb
 rw [hAb]
 clear hfm hff hAb
 go_upto_region 9 with fail
 go_region
 go_upto_region 10 with fail
 obtain ⟨V,hV⟩:∃ V,V=(((wx.setCell ⟨g3,0,none⟩ (.bool f.lost)).setCell ⟨g3,1,none⟩ (.int .i64 f.d)).setCell ⟨g3,2,none⟩ (.bool f.again)).setCell ⟨g3,3,none⟩ (.int .i64 f.ad):=⟨_,rfl⟩
 have hCV:Chg [g3] wx V:=by
  rw [hV]
  exact (Chg.of_only (OnlyB.setCell _ _ _ _) (by simp)).trans ((Chg.of_only (OnlyB.setCell _ _ _ _) (by simp)).trans ((Chg.of_only (OnlyB.setCell _ _ _ _) (by simp)).trans (Chg.of_only (OnlyB.setCell _ _ _ _) (by simp))))
 have hBV:Blk V g3 255 (Pc.row ⟨f,k.sent,now,false,A',c',zs⟩).toArray:=by
  rw [hV]
  have h9:=(((HBF.out.set_ 0 (.bool f.lost)).set_ 1 (.int .i64 f.d)).set_ 2 (.bool f.again)).set_ 3 (.int .i64 f.ad)
  exact h9
 rw [← hV]
 clear hV y0 y1 y2 y3 y4 q0 q1 q2 q3 z0 z1 z2 z3 c1
 have hUV:Below w0.heap.size w0 V:=⟨hCV.os.trans HBB.out.os,hCV.tape.trans HBB.out.tape,hCV.output.trans HBB.out.output,Nat.le_trans HBB.out.size hCV.size,fun q hq=>(hCV.block q (Nat.lt_of_lt_of_le hq HBB.out.size) (by simp;omega)).trans (HBB.out.block q hq)⟩
 have HM2:=HM.out.mv (Mv.of_chg hCV (by simp)) (by simp;omega) (fun q hq=>by have:=HQ.out q hq;simp;omega)
 have hII:IntsAt V V.heap.size .u8 A' zs:=hCV.ints HI.out.at_ (fun q0 b off e=>by simp;exact hne9 q0 b off e)
 refine zan (by assumption) ?_
 refine h V.drew.drew _ g3 A' c' (HM2.mv (Mv.below (Below.drew (Below.drew (Below.refl V.heap.size V)))) (by simp) (by simp)) (by rw [HFF.out];exact hBV.drew.drew) hg3 hcc hII (fun q0 b off e=>⟨HI.out.low q0 b off e,hne9 q0 b off e⟩) (Below.drew (Below.drew hUV)) (Fr.mk rfl ⟨rfl,rfl,rfl,trivial⟩)
section
variable {W W':World} {S:List Nat} {base gc g3:Nat} {k:Ca} {p:Pc}
theorem CaM.num (h:CaM W S base gc k) (hc:Chg [gc] W W') (s l n:Int) (hB:Blk W' gc 253 (Ca.row { k with sent:=s,lost:=l,now:=n }).toArray):CaM W' S base gc { k with sent:=s,lost:=l,now:=n } :=
 have hs:∀ x ∈ [gc],x∈S:=by intro x hx;simp at hx;rw [hx];exact h.gcS
 ⟨hB,hc.owns h.own (fun q hq hx=>by simp at hx;rw [hx] at hq;exact h.ne hq),h.ne,h.gcS,h.pS,h.fts.chg hc hs,fun p hp=>⟨(h.pay p hp).1.chg hc hs,(h.pay p hp).2⟩,h.ok,h.fok,fun x hx=>Nat.lt_of_lt_of_le (h.lt x hx) hc.size⟩
theorem CaM.sds (h:CaM W S base gc k) (h3:Blk W g3 255 p.row.toArray) (n1:ownB k.pA≠some g3) (n2:gc≠g3) (hb:base≤W.heap.size):SdS W gc g3 base k p:=⟨h.blk,h3,h.own,h.ne,n1,n2,hb⟩
theorem CaM.app {q:Pc} {An:Option Addr} {cn:Nat} (h:CaM W S base gc k) (X:SdS W' gc g3 base { k with pA:=An,pc:=cn,ps:=k.ps ++ [q] } q) (hc:Chg (g3::gc::(ownB k.pA).toList) W W') (hat:ownB An=ownB k.pA∨∀ g,ownB An=some g→W.heap.size≤g) (h3:g3∈S) (hp:IntsAv W S .u8 q.A q.zs∧0<q.zs.length∧q.zs.length≤2000) (ok:q.ok) :
 CaM W' ((ownB An).toList++S) base gc { k with pA:=An,pc:=cn,ps:=k.ps ++ [q] } ∧ Mv (g3::gc::(ownB k.pA).toList) S W ((ownB An).toList++S) W':=by
 have hts:∀ x∈g3::gc::(ownB k.pA).toList,x∈S:=fun x hx=>by
  simp at hx
  rcases hx with e|e|e
  · rw [e];exact h3
  · rw [e];exact h.gcS
  · exact h.pS x e
 have m:Mv (g3::gc::(ownB k.pA).toList) S W ((ownB An).toList++S) W':=by
  refine ⟨fun x hx=>List.mem_append_right _ hx,fun x hx => ?_,hc,hts,fun x hx => ?_⟩
  · rcases List.mem_append.1 hx with hx|hx
    · rcases hat with e|e
      · rw [e] at hx;exact .inl (h.pS x (by simpa using hx))
      · exact .inr (e x (by simpa using hx))
    · exact .inl hx
  · rcases List.mem_append.1 hx with hx|hx
    · exact .inr (X.own.block x (by simpa using hx)).2
    · exact .inl hx
 refine ⟨⟨X.bc,X.own,X.ne,List.mem_append_right _ h.gcS,fun g hg=>List.mem_append_left _ (by rw [show ownB An=some g from hg];simp),m.rows h.fts,fun p hp' => ?_,fun p hp' => ?_,h.fok,fun x hx=>(m.lt x hx).elim (fun h1=>Nat.lt_of_lt_of_le (h.lt x h1) hc.size) id⟩,m⟩
 · rcases List.mem_append.1 hp' with hp'|hp'
   · exact ⟨m.ints (h.pay p hp').1,(h.pay p hp').2⟩
   · simp at hp';rw [hp'];exact ⟨m.ints hp.1,hp.2⟩
 · rcases List.mem_append.1 hp' with hp'|hp'
   · exact h.ok p hp'
   · simp at hp';rw [hp'];exact ok
end
theorem Ft.okD {k:Ca} (h:∀ f∈k.fs,f.ok):(fateOf k).ok:=by
 unfold fateOf
 rw [List.getD_eq_getElem?_getD]
 cases e:k.fs[k.sent.toNat]? with
 | none=>exact ⟨⟨by decide,by decide⟩,by decide,by decide⟩
 | some f=>exact h f (List.mem_of_getElem? e)
theorem zrv {gc base:Nat} {S:List Nat} {k:Ca} {A:Option Addr} {c:Nat} {zs:List Int} {now:Int} {W:World} (M:CaM W S base gc k) (hb:base≤W.heap.size) (hI:IntsAt W W.heap.size .u8 A zs) (h0:0<zs.length) (hl:zs.length≤2000) (n0:k.now≤now) (n1:0≤now) (n2:now≤1000000) (s0:0≤k.sent) (s1:k.sent<10000) (hf:k.fs.length≤2000) (hp:k.ps.length≤990) (l0 : -100000≤k.lost∧k.lost≤100000) :
 Calls Tryz.prog 75 #[.pointer (some ⟨gc,0,none⟩), .string { data := #[97] }, .string { data := #[98] }, .slice A zs.length c, .int .i64 now] W (SendC S base gc k zs now W):=by
 refine zvb M hI h0 hl n0 n1 n2 s0 s1 hf (fun W' a g3 A' c' M' B3 hg3 hcc hII hne HB ha => ?_)
 obtain ⟨s,rfl,hs9⟩:=ha
 rw [r106]
 obtain ⟨e0,e4,e12,_⟩:=hs9
 rw [e0,e4,e12]
 have x3:W'.cell? ⟨gc,3,none⟩=some (.int .i64 k.sent):=M'.blk.at 3 _ rfl
 have x4:W'.cell? ⟨gc,4,none⟩=some (.int .i64 k.lost):=M'.blk.at 4 _ rfl
 have x5:W'.cell? ⟨gc,5,none⟩=some (.int .i64 k.now):=M'.blk.at 5 _ rfl
 have f3:=M'.blk.frozen 3
 have f4:=M'.blk.frozen 4
 have f5:=M'.blk.frozen 5
 have hgl:=M'.blk.lt
 have hg3l:=B3.lt
 have hgW:=M.blk.lt
 have n9:gc≠g3:=by omega
 have n8:ownB k.pA≠some g3:=fun e=>by have:=(M.own.block g3 e).2;omega
 have hok:=Ft.okD M.fok
 obtain ⟨f,hff⟩:∃ f,f=fateOf k:=⟨_,rfl⟩
 rw [← hff] at B3 hok
 have hcp:copies f k.sent now A' c' zs=copies (fateOf k) k.sent now A' c' zs:=by rw [hff]
 have hpok:∀ b,(⟨f,k.sent,now,b,A',c',zs⟩:Pc).ok:=fun b=>⟨hok,n1,n2⟩
 have hpi:IntsAv W' (g3::S) .u8 A' zs:=⟨hII,fun q0 b off e hx=>by
  obtain ⟨q1,q2⟩:=hne q0 b off e
  rcases List.mem_cons.1 hx with e2|e2
  · exact q2 e2
  · have:=M.lt b e2;omega⟩
 have y0:W'.cell? ⟨g3,0,none⟩=some (.bool f.lost):=B3.at 0 _ rfl
 have m0:Mv (gc::(ownB k.pA).toList) S W (g3::S) W':=(Mv.add HB hg3 hg3l).weak (fun x hx=>by
  simp at hx
  rcases hx with e|e
  · rw [e];exact M.gcS
  · exact M.pS x e)
 have y4:W'.cell? ⟨g3,4,none⟩=some (.int .i64 k.sent):=B3.at 4 _ rfl
 obtain ⟨no,hno⟩:∃ no,no=k.sent:=⟨_,rfl⟩
 obtain ⟨V,hV⟩:∃ V,V=(W'.setCell ⟨gc,3,none⟩ (.int .i64 (k.sent+1))).setCell ⟨gc,5,none⟩ (.int .i64 now):=⟨_,rfl⟩
 have hCV:Chg [gc] W' V:=by
  rw [hV]
  exact (Chg.of_only (OnlyB.setCell _ _ _ _) (by simp)).trans (Chg.of_only (OnlyB.setCell _ _ _ _) (by simp))
 have hBV:Blk V gc 253 (Ca.row { k with sent:=k.sent+1,lost:=k.lost,now:=now }).toArray:=by
  rw [hV]
  exact (M'.blk.set_ 3 (.int .i64 (k.sent+1))).set_ 5 (.int .i64 now)
 have M1:=M'.num hCV (k.sent+1) k.lost now hBV
 have B31:Blk V g3 255 (Pc.row ⟨f,k.sent,now,false,A',c',zs⟩).toArray:=hCV.blk B3 (by simp;exact n9.symm)
 have hpi1:=hpi.chg hCV (by intro x hx;simp at hx;rw [hx];exact List.mem_cons_of_mem _ M.gcS)
 have m1:Mv (gc::(ownB k.pA).toList) S W (g3::S) V:=m0.trans (Mv.of_chg hCV (by intro x hx;simp at hx;rw [hx];exact List.mem_cons_of_mem _ M.gcS)) (by intro x hx;simp at hx;rw [hx];exact .inl List.mem_cons_self)
 have z0:V.cell? ⟨g3,0,none⟩=some (.bool f.lost):=B31.at 0 _ rfl
 have z4:V.cell? ⟨g3,4,none⟩=some (.int .i64 k.sent):=B31.at 4 _ rfl
 have v4:V.cell? ⟨gc,4,none⟩=some (.int .i64 k.lost):=hBV.at 4 _ rfl
 have fv4:=hBV.frozen 4
 have hgV:gc<V.heap.size:=hBV.lt
 have HV:=Z9 hV
 have HM1:=Z9 M1
 have HB31:=Z9 B31
 have HP1:=Z9 hpi1
 have Hm1:=Z9 m1
 have hbV:base≤V.heap.size:=Nat.le_trans hb (Nat.le_trans HB.size hCV.size)
 have HCP:=Z9 hcp
 clear hV hCV hBV M1 B31 hpi1 m1 m0 hpi hne hII HB M' B3 hff hok hno hcp
 refine zaq ?_
 intro _ _
 go_upto_region 12 with fail
 rw [← HV.out]
 clear x3 x4 x5 f3 f4 f5 HV y0 y4
 by_cases hlo:f.lost=true
 · rw [hlo] at z0
   go_upto_region 14 with fail
   obtain ⟨W2,hW2⟩:∃ W2,W2=V.setCell ⟨gc,4,none⟩ (.int .i64 (k.lost+1)):=⟨_,rfl⟩
   have hC2:Chg [gc] V W2:=by rw [hW2];exact Chg.of_only (OnlyB.setCell _ _ _ _) (by simp)
   have hB2:Blk W2 gc 253 (Ca.row { k with sent:=k.sent+1,lost:=k.lost+1,now:=now }).toArray:=by rw [hW2];exact HM1.out.blk.set_ 4 _
   have w4:W2.cell? ⟨g3,4,none⟩=some (.int .i64 k.sent):=(hC2.blk HB31.out (by simp;exact n9.symm)).at 4 _ rfl
   rw [← hW2]
   clear hW2
   have M2:=HM1.out.num hC2 (k.sent+1) (k.lost+1) now hB2
   have m2:=Hm1.out.trans (Mv.of_chg hC2 (by intro x hx;simp at hx;rw [hx];exact List.mem_cons_of_mem _ M.gcS)) (by intro x hx;simp at hx;rw [hx];exact .inl List.mem_cons_self)
   have HM2:=Z9 M2
   have Hm2:=Z9 m2
   clear M2 m2 hC2 hB2
   go_wp2_with fail
   go_ret2
   exact ⟨_,_,A',c',rfl,HM2.out,Hm2.out,rfl,rfl,rfl,Or.inl rfl,hcc,by rw [← HCP.out];simp [copies,hlo]⟩
 have hlo2:f.lost=false:=by simpa using hlo
 rw [hlo2] at z0
 go_upto_region 15 with fail
 refine zan (by assumption) ?_
 have hokp:=hpok
 have hVs:W.heap.size≤V.heap.size:=Hm1.out.chg.size
 refine zuz (now:=now) (p:=⟨f,k.sent,now,false,A',c',zs⟩) (HM1.out.sds HB31.out n8 n9 hbV) (show k.ps.length≤1000 by omega) (fun W2 a An cn X2 hc2 hat2 ha => ?_) _ (Fr.mk rfl ⟨rfl,rfl,rfl,trivial⟩)
 obtain ⟨M2,m2⟩:=HM1.out.app X2 (hc2.more (fun x hx=>List.mem_cons_of_mem _ hx)) hat2 List.mem_cons_self ⟨HP1.out,h0,hl⟩ (hokp false)
 have mm:=Hm1.out.trans m2 (fun x hx=>by
  rcases List.mem_cons.1 hx with e|e
  · rw [e];exact .inr hg3
  · exact .inl e)
 refine zva X2 (show (k.ps ++ [_]).length≤1000 by simp;omega) (fun hag => ?_) (fun hag W3 An3 cn3 X3 hc3 hat3 => ?_) _ ha
 · exact ⟨_,_,A',c',rfl,M2,mm,rfl,rfl,rfl,hat2.imp id (fun h g e=>Nat.le_trans hVs (h g e)),hcc,by rw [← HCP.out];have hag2:f.again=false:=hag;simp [copies,hlo2,hag2]⟩
 · obtain ⟨M3,m3⟩:=M2.app X3 hc3 hat3 (List.mem_append_right _ List.mem_cons_self) ⟨m2.ints HP1.out,h0,hl⟩ (hokp true)
   have mm3:=mm.trans m3 (fun x hx=>by
    simp at hx
    rcases hx with e|e|e
    · rw [e];exact .inr hg3
    · rw [e];exact .inl List.mem_cons_self
    · rcases hat2 with h9|h9
      · rw [h9] at e;exact .inl (List.mem_cons_of_mem _ (by simpa using e))
      · exact .inr (Nat.le_trans hVs (h9 x e)))
   have hW2s:W.heap.size≤W2.heap.size:=Nat.le_trans hVs m2.chg.size
   exact ⟨_,_,A',c',rfl,M3,mm3,rfl,rfl,rfl,by
    rcases hat3 with h9|h9
    · rcases hat2 with h8|h8
      · exact .inl (h9.trans h8)
      · exact .inr (fun g e=>Nat.le_trans hVs (h8 g (h9 ▸ e)))
    · exact .inr (fun g e=>Nat.le_trans hW2s (h9 g e)),hcc,by rw [← HCP.out];have hag2:f.again=true:=hag;simp [copies,hlo2,hag2]⟩
theorem Chg.new {S:List Nat} {w w' w'':World} {g:Nat} (h:Chg S w w') (ho:OnlyB g w' w'') (hg:w.heap.size≤g):Chg S w w'':=by
 have h2:Chg (g::S) w w'':=(h.more (fun x hx=>List.mem_cons_of_mem _ hx)).trans (Chg.of_only ho (by simp))
 exact h2.less hg
theorem zay:(Tryz.prog.info? 53).map (·.size)=some 2:=by kernel_rfl
section
variable {w w' w'':World} {S:List Nat} {gf of_ gt ot:Nat} {tf tt:TypeId} {cf ct:List Value} {c:Int} {p u:Sb.Pt} {i:Nat} {tk:Option Sb.Sd} {A1:Option Addr} {c1:Nat} {A2:Option Addr} {n2 c2:Nat} {l2:List TW} {ZA:Option Addr} {zs:List Int} {p' u':Sb.Pt} {A1':Option Addr} {c1':Nat} {A2':Option Addr} {n2' c2':Nat} {l2':List TW} {kd:Int} {TA:Option Addr} {tz:List Int} {SA:Option Addr} {ls:List TS} {tk':Option Sb.Sd}
theorem HC.drew (h:HC w S gf of_ gt ot tf tt cf ct c p u i tk A1 c1 A2 n2 c2 l2 ZA zs):HC w.drew S gf of_ gt ot tf tt cf ct c p u i tk A1 c1 A2 n2 c2 l2 ZA zs :=
 ⟨h.bf,h.bt,h.ne,h.sf,h.st,h.sw,h.pf,h.lf,h.pt,h.lt,h.k1,h.hq,h.hn,h.hc,h.hm,⟨h.q.wts,h.q.row,h.q.pay⟩,h.hop,h.i40,h.z,h.zl,h.zb⟩
theorem HC.add (h:HC w S gf of_ gt ot tf tt cf ct c p u i tk A1 c1 A2 n2 c2 l2 ZA zs) (o:Obj):HC (w.alloc o) (w.heap.size::S) gf of_ gt ot tf tt cf ct c p u i tk A1 c1 A2 n2 c2 l2 ZA zs:=by
 have hb:=(Below.refl w.heap.size w).alloc (Nat.le_refl _) o
 refine ⟨h.bf.push _,h.bt.push _,h.ne,List.mem_cons_of_mem _ h.sf,List.mem_cons_of_mem _ h.st,fun x hx => ?_,h.pf,h.lf,h.pt,h.lt,h.k1,h.hq,h.hn,h.hc,h.hm,(h.q.add (Nat.le_refl _)).later hb,h.hop,h.i40,h.z.push _,h.zl,h.zb⟩
 rcases List.mem_cons.1 hx with e|hx
 · rw [e];simp
 · have:=h.sw x hx;simp;omega
theorem HR.add (h:HR w w' S gf of_ gt ot tf tt cf ct c p i tk zs p' u' A1' c1' A2' n2' c2' l2' kd TA tz SA ls tk') (o:Obj):HR w (w'.alloc o) (w'.heap.size::S) gf of_ gt ot tf tt cf ct c p i tk zs p' u' A1' c1' A2' n2' c2' l2' kd TA tz SA ls tk':=by
 have hb:=(Below.refl w'.heap.size w').alloc (Nat.le_refl _) o
 have hr:RowsAv w' (w'.heap.size::S) 3 TS.row SA ls:=⟨h.sd.1.1,fun h0 b off e hx=>by
  rcases List.mem_cons.1 hx with e2|hx
  · obtain ⟨b',off',e',hlt,_⟩:=h.sd.1.1 h0
    rw [e] at e';injection e' with e';injection e' with e1 _;omega
  · exact h.sd.1.2 h0 b off e hx⟩
 exact ⟨h.bf.push _,h.k1,h.bt.push _,h.hq,h.hn,h.hc,h.hm,(h.q.add (Nat.le_refl _)).later hb,h.hop,h.tick,(h.tza.add (Nat.le_refl _)).chg (T:=[]) (Chg.of_below hb) (by simp),h.f2,
  SdAv.later ⟨hr,fun a ha=>(h.sd.2 a ha).add (Nat.le_refl _)⟩ hb,h.bd,h.ch.push _,h.en⟩
theorem HR.set {g:Nat} (h:HR w w' (g::S) gf of_ gt ot tf tt cf ct c p i tk zs p' u' A1' c1' A2' n2' c2' l2' kd TA tz SA ls tk') (ho:OnlyB g w' w'') (h1:gf≠g) (h2:gt≠g) (hg:w.heap.size≤g):HR w w'' (g::S) gf of_ gt ot tf tt cf ct c p i tk zs p' u' A1' c1' A2' n2' c2' l2' kd TA tz SA ls tk':=by
 have hc:Chg [g] w' w'':=Chg.of_only ho (by simp)
 have hm:∀ x ∈ [g],x∈g::S:=by intro x hx;simp at hx;simp [hx]
 exact ⟨ho.blk h.bf h1,h.k1,ho.blk h.bt h2,h.hq,h.hn,h.hc,h.hm,h.q.chg hc hm,h.hop,h.tick,h.tza.chg hc hm,h.f2,h.sd.chg hc hm,h.bd,h.ch.new ho hg,h.en⟩
theorem HR.at {v:World} (h:HR w w' S gf of_ gt ot tf tt cf ct c p i tk zs p' u' A1' c1' A2' n2' c2' l2' kd TA tz SA ls tk') (hc:Chg [gf,gt] v w'):HR v w' S gf of_ gt ot tf tt cf ct c p i tk zs p' u' A1' c1' A2' n2' c2' l2' kd TA tz SA ls tk' :=
 ⟨h.bf,h.k1,h.bt,h.hq,h.hn,h.hc,h.hm,h.q,h.hop,h.tick,h.tza,h.f2,h.sd,h.bd,hc,h.en⟩
end
noncomputable def vr24_code:Code:=((Tryz.f3.body.bind (findRegS 24)).getD .skip)
theorem zvc {s0 s1 s2 s3 s4 s5 s6 s7 s10 s11 s12 s13 s14 s15 s16 s17 s18 s19 s20 s22 s25 s26 s27 s28 s29 s30 s31 s32 s33 s34 s35 s36 s37 s38 s39 s40 s41 s42 s43 s44 s45 s46 s47 s48 s49 s50 s51 s52 s53 s54 s55 s56 s57 s58 s59 s60 s61 s62 s63 s64 s65 s66 s67 s68 s69 s70 s71 s72 s73 s74 s75 s76 s77 s78 s79 s80 s81 s82 s83 s84 s85 s86 s87 s88 s89 s90 s91 s92 s93 s94 s95 s96 s97 s98 s99 s100 s101 s102 s103 s104 s105 s106 s107 s108 s109 s110 s111 s112 s113 s114 s115 s116 s117 s118 s119 s120 s121 s122 s123 s124 s125 s126 s127 s128 s129 s130 s131 s132 s133 s134 s135 s136 s137 s138 s139 s140 s141 s142 s143 s144 s145 s146 s147 s148 s149 s150 s151 s152 s153 s154 s155 s156 s157 s158 s159 s160 s161 s162 s163 s164 s165 s166 s167 s168 s169 s170 s171 s172 s173 s174 s175 s176 s177 s178 s179 s180 s181 s182 s183 s184 s185 s186 s187 s188 s189 s190 s191 s192 s193 s194 s195 s196 s197 s198 s199 s200 s201 s202 s203 s204 s205 s206 s207 s208 s209 s210 s211 s212 s213 s214 s215 s216 s217 s218 s219 s220 s221 s222 s223 s224 s225 s226 s227 s228 s229 s230 s231 s232 s233 s234 s235 s236 s237 s238 s239 s240 s241 s242 s243 s244 s245 s246 s247 s248 s249 s250 s251 s252 s253 s254 s255 s256:Value} {Q:Exit→Act→World→Prop} {W:World} {S:List Nat} {gf of_ gt ot:Nat} {tf tt:TypeId} {cf ct:List Value} {c:Int} {p u:Sb.Pt} {i:Nat} {tk:Option Sb.Sd} {A1:Option Addr} {c1:Nat} {A2:Option Addr} {n2 c2:Nat} {l2:List TW} {ZA:Option Addr} {zs:List Int} {zc:Nat} (C:HC W S gf of_ gt ot tf tt cf ct c p u i tk A1 c1 A2 n2 c2 l2 ZA zs) (k:Nat) (hk0:(0:Int)≤(k:Int)) (hk4:(k:Int)<4) (hof:of_=k*48) (hot:ot=k*48) (hQp:∀ (ch:_) (a:Act) (d:Tmp) (u:Value) (w:World),Q (.panic ch) (a.put (some d) u) w→Q (.panic ch) a w)
 (h:∀ (wx:World) (g8:Nat) (p' u':Sb.Pt) (A1':Option Addr) (c1':Nat) (A2':Option Addr) (n2' c2':Nat) (l2':List TW) (kd:Int) (TA:Option Addr) (tn tc:Nat) (tz:List Int) (SA:Option Addr) (sn sc:Nat) (ls:List TS) (tk':Option Sb.Sd) (u131 u132 u133 u134 u135 u136 u137 u138 u139 u140 u141:Value),tz.length=tn→ls.length=sn→W.heap.size≤g8→Blk wx g8 53 #[.int .i64 kd, .slice TA tn tc]→HR W wx (g8::S) gf of_ gt ot tf tt cf ct c p i tk zs p' u' A1' c1' A2' n2' c2' l2' kd TA tz SA ls tk'→Q .normal ⟨#[s0,s1,s2,s3,s4,s5,s6,s7, .pointer (some ⟨gf,0,none⟩), .pointer (some ⟨gt,0,none⟩),s10,s11,s12,s13,s14,s15,s16,s17,s18,s19,s20, .int .i64 (20*(i:Int)),s22, .int .i64 (k:Int), .slice ZA 160 zc, .pointer (some ⟨g8,0,none⟩), .slice SA sn sc, .bool true,s28,s29,s30,s31,s32,s33,s34,s35,s36,s37,s38,s39,s40,s41,s42,s43,s44,s45,s46,s47,s48,s49,s50,s51,s52,s53,s54,s55,s56,s57,s58,s59,s60,s61,s62,s63,s64,s65,s66,s67,s68,s69,s70,s71,s72,s73,s74,s75,s76,s77,s78,s79,s80,s81,s82,s83,s84,s85,s86,s87,s88,s89,s90,s91,s92,s93,s94,s95,s96,s97,s98,s99,s100,s101,s102,s103,s104,s105,s106,s107,s108,s109,s110,s111,s112,s113,s114,s115,s116,s117,s118,s119,s120,s121,s122,s123,s124,s125,s126,s127,s128,s129,s130,u131,u132,u133,u134,u135,u136,u137,u138,u139,u140,u141,s142,s143,s144,s145,s146,s147,s148,s149,s150,s151,s152,s153,s154,s155,s156,s157,s158,s159,s160,s161,s162,s163,s164,s165,s166,s167,s168,s169,s170,s171,s172,s173,s174,s175,s176,s177,s178,s179,s180,s181,s182,s183,s184,s185,s186,s187,s188,s189,s190,s191,s192,s193,s194,s195,s196,s197,s198,s199,s200,s201,s202,s203,s204,s205,s206,s207,s208,s209,s210,s211,s212,s213,s214,s215,s216,s217,s218,s219,s220,s221,s222,s223,s224,s225,s226,s227,s228,s229,s230,s231,s232,s233,s234,s235,s236,s237,s238,s239,s240,s241,s242,s243,s244,s245,s246,s247,s248,s249,s250,s251,s252,s253,s254,s255,s256],[]⟩ wx):vr24_code.wp Tryz.prog Q ⟨#[s0,s1,s2,s3,s4,s5,s6,s7, .pointer (some ⟨gf,0,none⟩), .pointer (some ⟨gt,0,none⟩),s10,s11,s12,s13,s14,s15,s16,s17,s18,s19,s20, .int .i64 (20*(i:Int)),s22, .int .i64 (k:Int), .slice ZA 160 zc,s25,s26,s27,s28,s29,s30,s31,s32,s33,s34,s35,s36,s37,s38,s39,s40,s41,s42,s43,s44,s45,s46,s47,s48,s49,s50,s51,s52,s53,s54,s55,s56,s57,s58,s59,s60,s61,s62,s63,s64,s65,s66,s67,s68,s69,s70,s71,s72,s73,s74,s75,s76,s77,s78,s79,s80,s81,s82,s83,s84,s85,s86,s87,s88,s89,s90,s91,s92,s93,s94,s95,s96,s97,s98,s99,s100,s101,s102,s103,s104,s105,s106,s107,s108,s109,s110,s111,s112,s113,s114,s115,s116,s117,s118,s119,s120,s121,s122,s123,s124,s125,s126,s127,s128,s129,s130,s131,s132,s133,s134,s135,s136,s137,s138,s139,s140,s141,s142,s143,s144,s145,s146,s147,s148,s149,s150,s151,s152,s153,s154,s155,s156,s157,s158,s159,s160,s161,s162,s163,s164,s165,s166,s167,s168,s169,s170,s171,s172,s173,s174,s175,s176,s177,s178,s179,s180,s181,s182,s183,s184,s185,s186,s187,s188,s189,s190,s191,s192,s193,s194,s195,s196,s197,s198,s199,s200,s201,s202,s203,s204,s205,s206,s207,s208,s209,s210,s211,s212,s213,s214,s215,s216,s217,s218,s219,s220,s221,s222,s223,s224,s225,s226,s227,s228,s229,s230,s231,s232,s233,s234,s235,s236,s237,s238,s239,s240,s241,s242,s243,s244,s245,s246,s247,s248,s249,s250,s251,s252,s253,s254,s255,s256],[]⟩ W:=by
 have hgf:=C.sw gf C.sf
 have hgt:=C.sw gt C.st
 have HC:=Z9 C.drew
 clear C
 have hq:=Z9 h
 clear h
 conv=>arg 2;whnf
 refine wp_region_held_drew (S:=fun w'=>Chg [gf,gt] W w') (by kernel_rfl) (Chg.drew (Chg.refl _ _)) (fun qH => ?_)
 obtain ⟨X,hX⟩:∃ X,X=W.drew:=⟨_,rfl⟩
 rw [← hX] at qH HC ⊢
 clear hX
 subst hof hot
 refine tk1 (i:=0) (v:=?_) rfl (Or.inl ⟨by rfl,?_⟩) qH ?_ (hQ:=q9 hQp)
 rotate_left
 · (intro w hSw;clear hSw;go_simp;try with_reducible rfl)
 try simp only [ss9]
 refine tk1 (i:=1) (v:=?_) rfl (Or.inl ⟨by rfl,?_⟩) qH ?_ (hQ:=q9 hQp)
 rotate_left
 · (intro w hSw;clear hSw;go_simp;try with_reducible rfl)
 try simp only [ss9]
 refine tk1 (i:=2) (v:=?_) rfl (Or.inl ⟨by rfl,?_⟩) qH ?_ (hQ:=q9 hQp)
 rotate_left
 · (intro w hSw;clear hSw;go_simp;try with_reducible rfl)
 try simp only [ss9]
 refine tk1 (i:=3) (v:=?_) rfl (Or.inl ⟨by rfl,?_⟩) qH ?_ (hQ:=q9 hQp)
 rotate_left
 · (intro w hSw;clear hSw;go_simp;try with_reducible rfl)
 try simp only [ss9]
 refine tk1 (i:=4) (v:=?_) rfl (Or.inl ⟨by rfl,?_⟩) qH ?_ (hQ:=q9 hQp)
 rotate_left
 · (intro w hSw;clear hSw;go_simp;try with_reducible rfl)
 try simp only [ss9]
 refine tk1 (i:=5) (v:=?_) rfl (Or.inl ⟨by rfl,?_⟩) qH ?_ (hQ:=q9 hQp)
 rotate_left
 · (intro w hSw;clear hSw;go_simp;try with_reducible rfl)
 try simp only [ss9]
 all_goals try
  fail_if_success (have hx:=HD)
  refine wpAnyH_ready (rs:=[6,11]) (by kernel_rfl) (by simp) ?_
  refine AllReadyH.cons (o:=_) rfl (fun K hK => ?_) (AllReadyH.cons (o:=_) rfl (fun K hK => ?_) AllReadyH.nil)
  rotate_left
  go_simp
  have HD:Hid (Blk (X.alloc (Obj.cells #[.int .i64 0, .slice none 0 0] 53)) X.heap.size 53 ([.int .i64 0, .slice none 0 0]:List Value).toArray):=Z9 (Blk.new _ _ _)
  have hg8:W.heap.size≤X.heap.size:=qH.size
  obtain ⟨g8,hgg⟩:∃ g,g=X.heap.size:=⟨_,rfl⟩
  replace HC:=Z9 (HC.out.add (Obj.cells #[.int .i64 0, .slice none 0 0] 53))
  refine hK.out _ _ ?_ (fun qH => ?_)
  · exact Chg.push qH _
  clear hK K
  try simp only [ss9]
  rw [← hgg] at HD hg8 HC ⊢
  clear hgg
  obtain ⟨Y,hY⟩:∃ V,V=X.alloc (Obj.cells #[.int .i64 0, .slice none 0 0] 53):=⟨_,rfl⟩
  rw [← hY] at HD qH HC ⊢
  clear hY
  obtain ⟨X,hX⟩:∃ X,X=Y:=⟨_,rfl⟩
  subst hX
 all_goals try
  refine wpAnyH_ready (rs:=[6]) (by kernel_rfl) (by simp) ?_
  refine AllReadyH.cons (o:=_) rfl (fun K hK => ?_) AllReadyH.nil
 all_goals
  go_simp
  refine (zpb HC.out).mono ?_
  rintro e X ⟨p',u',A1',c1',A2',n2',c2',l2',kd,TA,tn,tc,tz,SA,sn,sc,ls,tk',rfl,htn,hsn,H⟩
  have hch:=H.ch
  have HH:=Z9 H
  clear H HC
  try replace HD:=Z9 (hch.blk HD.out (by simp;omega))
  refine hK.out _ _ ?_ (fun qH => ?_)
  · exact Chg.trans qH hch
  clear hK K
  try simp only [ss9]
 all_goals
  refine tk1 (i:=7) (v:=?_) rfl (Or.inl ⟨by rfl,?_⟩) qH ?_ (hQ:=q9 hQp)
  rotate_left
  · (intro w hSw;clear hSw;go_simp;try with_reducible rfl)
  try simp only [ss9]
  refine tk1 (i:=8) (v:=?_) rfl (Or.inl ⟨by rfl,?_⟩) qH ?_ (hQ:=q9 hQp)
  rotate_left
  · (intro w hSw;clear hSw;go_simp;try with_reducible rfl)
  try simp only [ss9]
  refine tk1 (i:=9) (v:=?_) rfl (Or.inl ⟨by rfl,?_⟩) qH ?_ (hQ:=q9 hQp)
  rotate_left
  · (intro w hSw;clear hSw;go_simp;try with_reducible rfl)
  try simp only [ss9]
  refine tk1 (i:=10) (v:=?_) rfl (Or.inl ⟨by rfl,?_⟩) qH ?_ (hQ:=q9 hQp)
  rotate_left
  · (intro w hSw;clear hSw;go_simp;try with_reducible rfl)
  try simp only [ss9]
 all_goals try
  fail_if_success (have hx:=HD)
  refine wpAnyH_ready (rs:=[11]) (by kernel_rfl) (by simp) ?_
  refine AllReadyH.cons (o:=_) rfl (fun K hK => ?_) AllReadyH.nil
  go_simp
  have HD:Hid (Blk (X.alloc (Obj.cells #[.int .i64 0, .slice none 0 0] 53)) X.heap.size 53 ([.int .i64 0, .slice none 0 0]:List Value).toArray):=Z9 (Blk.new _ _ _)
  have hg8:W.heap.size≤X.heap.size:=qH.size
  obtain ⟨g8,hgg⟩:∃ g,g=X.heap.size:=⟨_,rfl⟩
  replace HH:=Z9 (HH.out.add (Obj.cells #[.int .i64 0, .slice none 0 0] 53))
  refine hK.out _ _ ?_ (fun qH => ?_)
  · exact Chg.push qH _
  clear hK K
  try simp only [ss9]
  rw [← hgg] at HD hg8 HH ⊢
  clear hgg
  obtain ⟨Y,hY⟩:∃ V,V=X.alloc (Obj.cells #[.int .i64 0, .slice none 0 0] 53):=⟨_,rfl⟩
  rw [← hY] at HD qH HH ⊢
  clear hY
  obtain ⟨X,hX⟩:∃ X,X=Y:=⟨_,rfl⟩
  subst hX
 all_goals
  refine wpAnyH_ready (rs:=[12]) (by kernel_rfl) (by simp) ?_
  refine AllReadyH.cons (o:=_) rfl (fun K hK => ?_) AllReadyH.nil
  refine zal rfl 53 (.tmp 25) (.tmp 139) rfl g8 0 rfl 53 [.int .i64 0, .slice none 0 0] HD.out [.int .i64 kd, .slice TA tn tc] rfl zay (Nat.le_refl 2) rfl [.int .i64 kd, .slice TA tn tc] rfl ?_
  intro WF BF OF
  have HF:Chg [gf,gt] W WF:=Chg.new qH OF hg8
  refine hK.out _ _ HF (fun qH => ?_)
  clear hK K
  try simp only [ss9]
  refine tk1 (i:=13) (v:=?_) rfl (Or.inl ⟨by rfl,?_⟩) qH ?_ (hQ:=q9 hQp)
  rotate_left
  · (intro w hSw;clear hSw;go_simp;try with_reducible rfl)
  try simp only [ss9]
  refine tk1 (i:=14) (v:=?_) rfl (Or.inl ⟨by rfl,?_⟩) qH ?_ (hQ:=q9 hQp)
  rotate_left
  · (intro w hSw;clear hSw;go_simp;try with_reducible rfl)
  try simp only [ss9]
  refine wpAnyH_done (by kernel_rfl) ?_ _
  exact hq.out WF g8 p' u' A1' c1' A2' n2' c2' l2' kd TA tn tc tz SA sn sc ls tk' _ _ _ _ _ _ _ _ _ _ _ htn hsn hg8 BF (((HH.out.at (v:=W) (by assumption)).set OF (by omega) (by omega) hg8))
noncomputable def vr36_code:Code:=((Tryz.f3.body.bind (findRegS 36)).getD .skip)
theorem zvd {s0 s1 s2 s3 s4 s5 s6 s7 s8 s9 s12 s13 s14 s15 s16 s17 s18 s19 s20 s22 s23 s24 s25 s26 s27 s29 s31 s32 s33 s34 s35 s36 s37 s38 s39 s40 s41 s42 s43 s44 s45 s46 s47 s48 s49 s50 s51 s52 s53 s54 s55 s56 s57 s58 s59 s60 s61 s62 s63 s64 s65 s66 s67 s68 s69 s70 s71 s72 s73 s74 s75 s76 s77 s78 s79 s80 s81 s82 s83 s84 s85 s86 s87 s88 s89 s90 s91 s92 s93 s94 s95 s96 s97 s98 s99 s100 s101 s102 s103 s104 s105 s106 s107 s108 s109 s110 s111 s112 s113 s114 s115 s116 s117 s118 s119 s120 s121 s122 s123 s124 s125 s126 s127 s128 s129 s130 s131 s132 s133 s134 s135 s136 s137 s138 s139 s140 s141 s142 s143 s144 s145 s146 s147 s148 s149 s150 s151 s152 s153 s154 s155 s156 s157 s158 s159 s160 s161 s162 s163 s164 s165 s166 s167 s168 s169 s170 s171 s172 s173 s174 s175 s176 s177 s178 s179 s180 s181 s182 s183 s184 s185 s186 s187 s188 s189 s190 s191 s192 s193 s194 s195 s196 s197 s198 s199 s200 s201 s202 s203 s204 s205 s206 s207 s208 s209 s210 s211 s212 s213 s214 s215 s216 s217 s218 s219 s220 s221 s222 s223 s224 s225 s226 s227 s228 s229 s230 s231 s232 s233 s234 s235 s236 s237 s238 s239 s240 s241 s242 s243 s244 s245 s246 s247 s248 s249 s250 s251 s252 s253 s254 s255 s256:Value} {Q:Exit→Act→World→Prop} {W:World} {S:List Nat} {gf of_ gt ot:Nat} {tf tt:TypeId} {cf ct:List Value} {c:Int} {p u:Sb.Pt} {i:Nat} {tk:Option Sb.Sd} {A1:Option Addr} {c1:Nat} {A2:Option Addr} {n2 c2:Nat} {l2:List TW} {ZA:Option Addr} {zs:List Int} {zc:Nat} (C:HC W S gf of_ gt ot tf tt cf ct c p u i tk A1 c1 A2 n2 c2 l2 ZA zs) (k:Nat) (hk0:(0:Int)≤(k:Int)) (hk4:(k:Int)<4) (hof:of_=k*48) (hot:ot=k*48) (gM n:Nat) (hkn:(k:Int)<(n:Int)) (xm:W.cell? ⟨gM,k,none⟩=some (.slice ZA 160 zc)) (hM:gM<W.heap.size) (hM1:gM≠gf) (hM2:gM≠gt) (hQp:∀ (ch:_) (a:Act) (d:Tmp) (u:Value) (w:World),Q (.panic ch) (a.put (some d) u) w→Q (.panic ch) a w)
 (h:∀ (wx:World) (g8:Nat) (p' u':Sb.Pt) (A1':Option Addr) (c1':Nat) (A2':Option Addr) (n2' c2':Nat) (l2':List TW) (kd:Int) (TA:Option Addr) (tn tc:Nat) (tz:List Int) (SA:Option Addr) (sn sc:Nat) (ls:List TS) (tk':Option Sb.Sd) (u184 u185 u186 u187 u188 u189 u190 u191 u192 u193 u194 u195 u196 u197:Value),tz.length=tn→ls.length=sn→W.heap.size≤g8→Blk wx g8 53 #[.int .i64 kd, .slice TA tn tc]→HR W wx (g8::S) gf of_ gt ot tf tt cf ct c p i tk zs p' u' A1' c1' A2' n2' c2' l2' kd TA tz SA ls tk'→Q .normal ⟨#[s0,s1,s2,s3,s4,s5,s6,s7,s8,s9, .pointer (some ⟨gf,0,none⟩), .pointer (some ⟨gt,0,none⟩),s12,s13,s14,s15,s16,s17,s18,s19,s20, .int .i64 (20*(i:Int)),s22,s23,s24,s25,s26,s27, .slice (some ⟨gM,0,none⟩) n n,s29, .int .i64 (k:Int), .pointer (some ⟨g8,0,none⟩), .slice SA sn sc, .bool true,s34,s35,s36,s37,s38,s39,s40,s41,s42,s43,s44,s45,s46,s47,s48,s49,s50,s51,s52,s53,s54,s55,s56,s57,s58,s59,s60,s61,s62,s63,s64,s65,s66,s67,s68,s69,s70,s71,s72,s73,s74,s75,s76,s77,s78,s79,s80,s81,s82,s83,s84,s85,s86,s87,s88,s89,s90,s91,s92,s93,s94,s95,s96,s97,s98,s99,s100,s101,s102,s103,s104,s105,s106,s107,s108,s109,s110,s111,s112,s113,s114,s115,s116,s117,s118,s119,s120,s121,s122,s123,s124,s125,s126,s127,s128,s129,s130,s131,s132,s133,s134,s135,s136,s137,s138,s139,s140,s141,s142,s143,s144,s145,s146,s147,s148,s149,s150,s151,s152,s153,s154,s155,s156,s157,s158,s159,s160,s161,s162,s163,s164,s165,s166,s167,s168,s169,s170,s171,s172,s173,s174,s175,s176,s177,s178,s179,s180,s181,s182,s183,u184,u185,u186,u187,u188,u189,u190,u191,u192,u193,u194,u195,u196,u197,s198,s199,s200,s201,s202,s203,s204,s205,s206,s207,s208,s209,s210,s211,s212,s213,s214,s215,s216,s217,s218,s219,s220,s221,s222,s223,s224,s225,s226,s227,s228,s229,s230,s231,s232,s233,s234,s235,s236,s237,s238,s239,s240,s241,s242,s243,s244,s245,s246,s247,s248,s249,s250,s251,s252,s253,s254,s255,s256],[]⟩ wx):vr36_code.wp Tryz.prog Q ⟨#[s0,s1,s2,s3,s4,s5,s6,s7,s8,s9, .pointer (some ⟨gf,0,none⟩), .pointer (some ⟨gt,0,none⟩),s12,s13,s14,s15,s16,s17,s18,s19,s20, .int .i64 (20*(i:Int)),s22,s23,s24,s25,s26,s27, .slice (some ⟨gM,0,none⟩) n n,s29, .int .i64 (k:Int),s31,s32,s33,s34,s35,s36,s37,s38,s39,s40,s41,s42,s43,s44,s45,s46,s47,s48,s49,s50,s51,s52,s53,s54,s55,s56,s57,s58,s59,s60,s61,s62,s63,s64,s65,s66,s67,s68,s69,s70,s71,s72,s73,s74,s75,s76,s77,s78,s79,s80,s81,s82,s83,s84,s85,s86,s87,s88,s89,s90,s91,s92,s93,s94,s95,s96,s97,s98,s99,s100,s101,s102,s103,s104,s105,s106,s107,s108,s109,s110,s111,s112,s113,s114,s115,s116,s117,s118,s119,s120,s121,s122,s123,s124,s125,s126,s127,s128,s129,s130,s131,s132,s133,s134,s135,s136,s137,s138,s139,s140,s141,s142,s143,s144,s145,s146,s147,s148,s149,s150,s151,s152,s153,s154,s155,s156,s157,s158,s159,s160,s161,s162,s163,s164,s165,s166,s167,s168,s169,s170,s171,s172,s173,s174,s175,s176,s177,s178,s179,s180,s181,s182,s183,s184,s185,s186,s187,s188,s189,s190,s191,s192,s193,s194,s195,s196,s197,s198,s199,s200,s201,s202,s203,s204,s205,s206,s207,s208,s209,s210,s211,s212,s213,s214,s215,s216,s217,s218,s219,s220,s221,s222,s223,s224,s225,s226,s227,s228,s229,s230,s231,s232,s233,s234,s235,s236,s237,s238,s239,s240,s241,s242,s243,s244,s245,s246,s247,s248,s249,s250,s251,s252,s253,s254,s255,s256],[]⟩ W:=by
 have hgf:=C.sw gf C.sf
 have hgt:=C.sw gt C.st
 have HC:=Z9 C.drew
 clear C
 have hq:=Z9 h
 clear h
 conv=>arg 2;whnf
 refine wp_region_held_drew (S:=fun w'=>Chg [gf,gt] W w') (by kernel_rfl) (Chg.drew (Chg.refl _ _)) (fun qH => ?_)
 obtain ⟨X,hX⟩:∃ X,X=W.drew:=⟨_,rfl⟩
 rw [← hX] at qH HC ⊢
 clear hX
 subst hof hot
 refine tk1 (i:=0) (v:=?_) rfl (Or.inl ⟨by rfl,?_⟩) qH ?_ (hQ:=q9 hQp)
 rotate_left
 · (intro w hSw;clear hSw;go_simp;try with_reducible rfl)
 try simp only [ss9]
 refine tk1 (i:=1) (v:=?_) rfl (Or.inl ⟨by rfl,?_⟩) qH ?_ (hQ:=q9 hQp)
 rotate_left
 · (intro w hSw;clear hSw;go_simp;try with_reducible rfl)
 try simp only [ss9]
 refine tk1 (i:=2) (v:=?_) rfl (Or.inl ⟨by rfl,?_⟩) qH ?_ (hQ:=q9 hQp)
 rotate_left
 · (intro w hSw;clear hSw;go_simp;try with_reducible rfl)
 try simp only [ss9]
 refine tk1 (i:=3) (v:=?_) rfl (Or.inl ⟨by rfl,?_⟩) qH ?_ (hQ:=q9 hQp)
 rotate_left
 · (intro w hSw;clear hSw;go_simp;try with_reducible rfl)
 try simp only [ss9]
 refine tk1 (i:=4) (v:=?_) rfl (Or.inl ⟨by rfl,?_⟩) qH ?_ (hQ:=q9 hQp)
 rotate_left
 · (intro w hSw;clear hSw;go_simp;try with_reducible rfl)
 try simp only [ss9]
 refine tk1 (i:=5) (v:=?_) rfl (Or.inl ⟨by rfl,?_⟩) qH ?_ (hQ:=q9 hQp)
 rotate_left
 · (intro w hSw;clear hSw;go_simp;try with_reducible rfl)
 try simp only [ss9]
 refine tk1 (i:=6) (v:=?_) rfl (Or.inl ⟨by rfl,?_⟩) qH ?_ (hQ:=q9 hQp)
 rotate_left
 · (intro w hSw;clear hSw;go_simp;try with_reducible rfl)
 try simp only [ss9]
 refine tk1 (i:=7) (v:=?_) rfl (Or.inl ⟨by rfl,?_⟩) qH ?_ (hQ:=q9 hQp)
 rotate_left
 · (intro w hSw;have c0:=(hSw.cell (p:=⟨gM,k,none⟩) hM (by simp;exact ⟨hM1,hM2⟩)).trans xm;clear hSw;go_simp;try with_reducible rfl)
 try simp only [ss9]
 refine tk1 (i:=8) (v:=?_) rfl (Or.inl ⟨by rfl,?_⟩) qH ?_ (hQ:=q9 hQp)
 rotate_left
 · (intro w hSw;clear hSw;go_simp;try with_reducible rfl)
 try simp only [ss9]
 all_goals try
  fail_if_success (have hx:=HD)
  refine wpAnyH_ready (rs:=[9,14]) (by kernel_rfl) (by simp) ?_
  refine AllReadyH.cons (o:=_) rfl (fun K hK => ?_) (AllReadyH.cons (o:=_) rfl (fun K hK => ?_) AllReadyH.nil)
  rotate_left
  go_simp
  have HD:Hid (Blk (X.alloc (Obj.cells #[.int .i64 0, .slice none 0 0] 53)) X.heap.size 53 ([.int .i64 0, .slice none 0 0]:List Value).toArray):=Z9 (Blk.new _ _ _)
  have hg8:W.heap.size≤X.heap.size:=qH.size
  obtain ⟨g8,hgg⟩:∃ g,g=X.heap.size:=⟨_,rfl⟩
  replace HC:=Z9 (HC.out.add (Obj.cells #[.int .i64 0, .slice none 0 0] 53))
  refine hK.out _ _ ?_ (fun qH => ?_)
  · exact Chg.push qH _
  clear hK K
  try simp only [ss9]
  rw [← hgg] at HD hg8 HC ⊢
  clear hgg
  obtain ⟨Y,hY⟩:∃ V,V=X.alloc (Obj.cells #[.int .i64 0, .slice none 0 0] 53):=⟨_,rfl⟩
  rw [← hY] at HD qH HC ⊢
  clear hY
  obtain ⟨X,hX⟩:∃ X,X=Y:=⟨_,rfl⟩
  subst hX
 all_goals try
  refine wpAnyH_ready (rs:=[9]) (by kernel_rfl) (by simp) ?_
  refine AllReadyH.cons (o:=_) rfl (fun K hK => ?_) AllReadyH.nil
 all_goals
  go_simp
  refine (zpb HC.out).mono ?_
  rintro e X ⟨p',u',A1',c1',A2',n2',c2',l2',kd,TA,tn,tc,tz,SA,sn,sc,ls,tk',rfl,htn,hsn,H⟩
  have hch:=H.ch
  have HH:=Z9 H
  clear H HC
  try replace HD:=Z9 (hch.blk HD.out (by simp;omega))
  refine hK.out _ _ ?_ (fun qH => ?_)
  · exact Chg.trans qH hch
  clear hK K
  try simp only [ss9]
 all_goals
  refine tk1 (i:=10) (v:=?_) rfl (Or.inl ⟨by rfl,?_⟩) qH ?_ (hQ:=q9 hQp)
  rotate_left
  · (intro w hSw;clear hSw;go_simp;try with_reducible rfl)
  try simp only [ss9]
  refine tk1 (i:=11) (v:=?_) rfl (Or.inl ⟨by rfl,?_⟩) qH ?_ (hQ:=q9 hQp)
  rotate_left
  · (intro w hSw;clear hSw;go_simp;try with_reducible rfl)
  try simp only [ss9]
  refine tk1 (i:=12) (v:=?_) rfl (Or.inl ⟨by rfl,?_⟩) qH ?_ (hQ:=q9 hQp)
  rotate_left
  · (intro w hSw;clear hSw;go_simp;try with_reducible rfl)
  try simp only [ss9]
  refine tk1 (i:=13) (v:=?_) rfl (Or.inl ⟨by rfl,?_⟩) qH ?_ (hQ:=q9 hQp)
  rotate_left
  · (intro w hSw;clear hSw;go_simp;try with_reducible rfl)
  try simp only [ss9]
 all_goals try
  fail_if_success (have hx:=HD)
  refine wpAnyH_ready (rs:=[14]) (by kernel_rfl) (by simp) ?_
  refine AllReadyH.cons (o:=_) rfl (fun K hK => ?_) AllReadyH.nil
  go_simp
  have HD:Hid (Blk (X.alloc (Obj.cells #[.int .i64 0, .slice none 0 0] 53)) X.heap.size 53 ([.int .i64 0, .slice none 0 0]:List Value).toArray):=Z9 (Blk.new _ _ _)
  have hg8:W.heap.size≤X.heap.size:=qH.size
  obtain ⟨g8,hgg⟩:∃ g,g=X.heap.size:=⟨_,rfl⟩
  replace HH:=Z9 (HH.out.add (Obj.cells #[.int .i64 0, .slice none 0 0] 53))
  refine hK.out _ _ ?_ (fun qH => ?_)
  · exact Chg.push qH _
  clear hK K
  try simp only [ss9]
  rw [← hgg] at HD hg8 HH ⊢
  clear hgg
  obtain ⟨Y,hY⟩:∃ V,V=X.alloc (Obj.cells #[.int .i64 0, .slice none 0 0] 53):=⟨_,rfl⟩
  rw [← hY] at HD qH HH ⊢
  clear hY
  obtain ⟨X,hX⟩:∃ X,X=Y:=⟨_,rfl⟩
  subst hX
 all_goals
  refine wpAnyH_ready (rs:=[15]) (by kernel_rfl) (by simp) ?_
  refine AllReadyH.cons (o:=_) rfl (fun K hK => ?_) AllReadyH.nil
  refine zal rfl 53 (.tmp 31) (.tmp 195) rfl g8 0 rfl 53 [.int .i64 0, .slice none 0 0] HD.out [.int .i64 kd, .slice TA tn tc] rfl zay (Nat.le_refl 2) rfl [.int .i64 kd, .slice TA tn tc] rfl ?_
  intro WF BF OF
  have HF:Chg [gf,gt] W WF:=Chg.new qH OF hg8
  refine hK.out _ _ HF (fun qH => ?_)
  clear hK K
  try simp only [ss9]
  refine tk1 (i:=16) (v:=?_) rfl (Or.inl ⟨by rfl,?_⟩) qH ?_ (hQ:=q9 hQp)
  rotate_left
  · (intro w hSw;clear hSw;go_simp;try with_reducible rfl)
  try simp only [ss9]
  refine tk1 (i:=17) (v:=?_) rfl (Or.inl ⟨by rfl,?_⟩) qH ?_ (hQ:=q9 hQp)
  rotate_left
  · (intro w hSw;clear hSw;go_simp;try with_reducible rfl)
  try simp only [ss9]
  refine wpAnyH_done (by kernel_rfl) ?_ _
  exact hq.out WF g8 p' u' A1' c1' A2' n2' c2' l2' kd TA tn tc tz SA sn sc ls tk' _ _ _ _ _ _ _ _ _ _ _ _ _ _ htn hsn hg8 BF (((HH.out.at (v:=W) (by assumption)).set OF (by omega) (by omega) hg8))
theorem r257 (s:Nat→Value):((List.range 257).map s).toArray = #[s 0,s 1,s 2,s 3,s 4,s 5,s 6,s 7,s 8,s 9,s 10,s 11,s 12,s 13,s 14,s 15,s 16,s 17,s 18,s 19,s 20,s 21,s 22,s 23,s 24,s 25,s 26,s 27,s 28,s 29,s 30,s 31,s 32,s 33,s 34,s 35,s 36,s 37,s 38,s 39,s 40,s 41,s 42,s 43,s 44,s 45,s 46,s 47,s 48,s 49,s 50,s 51,s 52,s 53,s 54,s 55,s 56,s 57,s 58,s 59,s 60,s 61,s 62,s 63,s 64,s 65,s 66,s 67,s 68,s 69,s 70,s 71,s 72,s 73,s 74,s 75,s 76,s 77,s 78,s 79,s 80,s 81,s 82,s 83,s 84,s 85,s 86,s 87,s 88,s 89,s 90,s 91,s 92,s 93,s 94,s 95,s 96,s 97,s 98,s 99,s 100,s 101,s 102,s 103,s 104,s 105,s 106,s 107,s 108,s 109,s 110,s 111,s 112,s 113,s 114,s 115,s 116,s 117,s 118,s 119,s 120,s 121,s 122,s 123,s 124,s 125,s 126,s 127,s 128,s 129,s 130,s 131,s 132,s 133,s 134,s 135,s 136,s 137,s 138,s 139,s 140,s 141,s 142,s 143,s 144,s 145,s 146,s 147,s 148,s 149,s 150,s 151,s 152,s 153,s 154,s 155,s 156,s 157,s 158,s 159,s 160,s 161,s 162,s 163,s 164,s 165,s 166,s 167,s 168,s 169,s 170,s 171,s 172,s 173,s 174,s 175,s 176,s 177,s 178,s 179,s 180,s 181,s 182,s 183,s 184,s 185,s 186,s 187,s 188,s 189,s 190,s 191,s 192,s 193,s 194,s 195,s 196,s 197,s 198,s 199,s 200,s 201,s 202,s 203,s 204,s 205,s 206,s 207,s 208,s 209,s 210,s 211,s 212,s 213,s 214,s 215,s 216,s 217,s 218,s 219,s 220,s 221,s 222,s 223,s 224,s 225,s 226,s 227,s 228,s 229,s 230,s 231,s 232,s 233,s 234,s 235,s 236,s 237,s 238,s 239,s 240,s 241,s 242,s 243,s 244,s 245,s 246,s 247,s 248,s 249,s 250,s 251,s 252,s 253,s 254,s 255,s 256]:=rfl
theorem zrw (hs:List TF):∀ (k:Nat) (a:TF),(hs.set k a).flatMap TF.row=(hs.flatMap TF.row).set k (.slice a.A a.zs.length a.c):=by
 induction hs with
 | nil=>intro k a;rfl
 | cons b hs ih =>
   intro k a
   cases k with
   | zero=>rfl
   | succ k =>
     rw [List.set_cons_succ,List.flatMap_cons,List.flatMap_cons,ih k a]
     show [Value.slice b.A b.zs.length b.c]++_=([Value.slice b.A b.zs.length b.c]++_).set (k+1) _
     rfl
structure FV (W:World) (b:VB) (gF:Nat) (fr:List TF):Prop where
 blk:Blk W gF 51 (fr.flatMap TF.row).toArray
 pay:∀ a∈fr,IntsAv W ([gF]++b.S) .i16 a.A a.zs
 z160:∀ a∈fr,a.zs.length≤160
 bd:∀ a∈fr,Within (-32768) 32767 a.zs
section
variable {W W':World} {b:VB} {gF:Nat} {fr:List TF}
theorem FV.chg {T:List Nat} (h:FV W b gF fr) (hc:Chg T W W') (hs:∀ x∈T,x ∈ [gF]++b.S) (hg:gF∉T):FV W' b gF fr:=⟨hc.blk h.blk hg,fun a ha=>(h.pay a ha).chg hc hs,h.z160,h.bd⟩
theorem FV.later (h:FV W b gF fr) (hb:Below W.heap.size W W'):FV W' b gF fr:=h.chg (T:=[]) (Chg.of_below hb) (by simp) (by simp)
theorem FV.push (h:FV W b gF fr) (o:Obj):FV (W.alloc o) b gF fr:=h.later ((Below.refl _ _).alloc (Nat.le_refl _) _)
theorem FV.set (h:FV W b gF fr) (k:Nat) (a:TF) (ha:IntsAv W ([gF]++b.S) .i16 a.A a.zs) (h1:a.zs.length≤160) (h2:Within (-32768) 32767 a.zs):FV (W.setCell ⟨gF,k,none⟩ (.slice a.A a.zs.length a.c)) b gF (fr.set k a):=by
 have hc:Chg [gF] W (W.setCell ⟨gF,k,none⟩ (.slice a.A a.zs.length a.c)):=Chg.of_only (OnlyB.setCell W gF k _) (by simp)
 have hm:∀ x ∈ [gF],x ∈ [gF]++b.S:=fun x hx=>List.mem_append_left _ hx
 have hmem:∀ x∈fr.set k a,x∈fr∨x=a:=fun x hx=>List.mem_or_eq_of_mem_set hx
 refine ⟨?_,fun x hx => ?_,fun x hx => ?_,fun x hx => ?_⟩
 · rw [zrw]
   have:=Blk.set_ h.blk k (.slice a.A a.zs.length a.c)
   simpa using this
 · rcases hmem x hx with e|e
   · exact (h.pay x e).chg hc hm
   · rw [e];exact ha.chg hc hm
 · rcases hmem x hx with e|e
   · exact h.z160 x e
   · rw [e];exact h1
 · rcases hmem x hx with e|e
   · exact h.bd x e
   · rw [e];exact h2
theorem FV.frs (h:FV W b gF fr):Frs W W.heap.size (some ⟨gF,0,none⟩) fr:=⟨fun h0=>⟨gF,0,rfl,h.blk.lt,fun i a ha j v hv=>by
 obtain rfl:j=0:=by
  have:=(List.getElem?_eq_some_iff.1 hv).1
  have h1:(TF.row a).length=1:=rfl
  omega
 refine h.blk.at _ _ ?_
 rw [List.getElem?_toArray,show 0+i*1+0=i by omega,zis fr i a ha]
 exact hv⟩,fun a ha=>(h.pay a ha).1⟩
end
def FMs (b:VB) (LA:Option Addr) (ln lc n i:Nat):List (Nat×Value):=[(2, .slice LA ln lc),(3, .pointer (some ⟨b.gC,0,none⟩)),(4, .pointer (some ⟨b.gL,0,none⟩)),(7, .int .i64 (n:Int)),(8, .pointer (some ⟨b.gm,0,none⟩)),(9, .pointer (some ⟨b.gi,0,none⟩)),(10, .pointer (some ⟨b.go,0,none⟩)),(11, .pointer (some ⟨b.ge,0,none⟩)),(18, .pointer (some ⟨b.gsd,0,none⟩)),(19, .pointer (some ⟨b.gst,0,none⟩)),(20, .int .i64 (i:Int))]
theorem at4 {α : Type} (f:Nat → α) (k:Nat) (hk:k<4):[f 0,f 1,f 2,f 3][k]? = some (f k):=by
 have h:k=0∨k=1∨k=2∨k=3:=by omega
 rcases h with rfl|rfl|rfl|rfl<;>rfl
theorem zee (f:Nat→TQ) (k:Nat) (hk:k<4):(tick4 f)[k*2]? = some (.int .i64 (f k).kd)∧(tick4 f)[k*2+1]? = some (.slice (f k).A (f k).zs.length (f k).c):=by
 have h:k=0∨k=1∨k=2∨k=3:=by omega
 rcases h with rfl|rfl|rfl|rfl<;>exact ⟨rfl,rfl⟩
theorem VM.codec {w W:World} {b:VB} {F:List Nat} {cs ls:Nat→Int} {fm fi fo fe:Nat→PQ} {ts tt:Nat→TQ} (h:VM w W b F cs ls fm fi fo fe ts tt) (k:Nat) (hk:k<4):W.cell? ⟨b.gC,k,none⟩=some (.int .u8 (cs k)):=by
 refine h.bC.at k _ ?_
 have:=at4 (fun j=>Value.int .u8 (cs j)) k hk
 simpa using this
theorem VM.loud {w W:World} {b:VB} {F:List Nat} {cs ls:Nat→Int} {fm fi fo fe:Nat→PQ} {ts tt:Nat→TQ} (h:VM w W b F cs ls fm fi fo fe ts tt) (k:Nat) (hk:k<4):W.cell? ⟨b.gL,k,none⟩=some (.int .u16 (ls k)):=by
 refine h.bL.at k _ ?_
 have:=at4 (fun j=>Value.int .u16 (ls j)) k hk
 simpa using this
theorem zgf {ls:List TS} {d:Sb.Sd} (h:ls.map TS.s=[d]):∃ x,ls=[x]∧x.s=d:=by
 match ls,h with
 | [x],h=>exact ⟨x,rfl,by injection h⟩
theorem zdw {at_:Int} {t:TQ} {tk:Option Sb.Sd} (ht:Sb.TkK at_ t.kd t.zs tk) {SA:Option Addr} {sn sc:Nat} {ls:List TS} (hf:Sb.F2 Sb.mG (ls.map TS.s) tk.toList) (hn:ls.length=sn) (w:World) (hs:Sds w w.heap.size SA ls) (hz:IntsAt w w.heap.size .i16 t.A t.zs):Calls Tryz.prog 9 #[.agg #[.int .i64 t.kd, .slice t.A t.zs.length t.c], .slice SA sn sc, .int .i64 at_] w fun e w'=>e = .returned (.bool true)∧Below w.heap.size w w':=by
 subst hn
 rcases ht.snd hf with ⟨h1,h2⟩|⟨d,h2,h3,h4,h5⟩
 · obtain rfl:ls=[]:=List.map_eq_nil_iff.1 h2
   rw [h1]
   exact zlt t.A _ t.c SA sc at_ w
 · obtain ⟨x,rfl,rfl⟩:=zgf h2
   rcases h5 with h5|⟨h5,h6⟩
   · rw [h5]
     exact zlu t.A _ t.c SA sc at_ x h4 w hs h3
   · rw [h5,← h6,h4]
     exact zlv t.A t.c SA sc at_ x h4 w hs h3 (by rw [h6];exact hz)
noncomputable def vmA_code:Code:=(((findB 5 (Tryz.f3.body.getD .skip)).bind (fromReg 21)).getD .skip)
noncomputable def vmB_code:Code:=(((findB 5 (Tryz.f3.body.getD .skip)).bind (fromReg 24)).getD .skip)
theorem zww {w W:World} {b:VB} {cs ls:Nat→Int} {fm fi fo fe:Nat→PQ} {ts tt:Nat→TQ} {gF n i k:Nat} {LA:Option Addr} {ln lc:Nat} {fr:List TF} {Q:Exit→Act→World→Prop} (X:VM w W b [gF] cs ls fm fi fo fe ts tt) (V:FV W b gF fr) (hk:k<n) (hn:n≤4) (hi:i<30) (L:List Bool) (hL:L.length=ln) (hR:RowsAt w w.heap.size 1 (fun x:Bool => [Value.bool x]) LA L) (hl0:∀ j,j<4→0≤ls j∧ls j≤65535)
 (h:∀ (W:World) (a:Act) (ZA:Option Addr) (zs:List Int),VM w W b [gF] cs ls fm fi fo fe ts tt→FV W b gF fr→IntsAt W W.heap.size .i16 ZA zs→zs.length=160→Within (-32768) 32767 zs→Fr 257 ((24, .slice ZA 160 160)::(21, .int .i64 (20*(i:Int)))::(22, .slice (some ⟨gF,0,none⟩) n n)::(23, .int .i64 (k:Int))::FMs b LA ln lc n i) a→firstWp Tryz.prog vmB_code Q a W) (a:Act) (ha:Fr 257 ((21, .int .i64 (20*(i:Int)))::(22, .slice (some ⟨gF,0,none⟩) n n)::(23, .int .i64 (k:Int))::FMs b LA ln lc n i) a):firstWp Tryz.prog vmA_code Q a W:=by
 obtain ⟨s,rfl,hs⟩:=ha
 rw [r257]
 obtain ⟨e21,e22,e23,e2,e3,e4,e7,e8,e9,e10,e11,e18,e19,e20,_⟩:=hs
 rw [e21,e22,e23,e2,e3,e4,e7,e8,e9,e10,e11,e18,e19,e20]
 have hk4:k<4:=by omega
 have y0:=X.loud k hk4
 have hl1:=hl0 k hk4
 have hi0:(0:Int)≤(i:Int):=by omega
 have hi1:(i:Int)<30:=by omega
 have hk0:(0:Int)≤(k:Int):=by omega
 have hk1:(k:Int)<4:=by omega
 obtain ⟨lz,hlz⟩:∃ z,z=ls k:=⟨_,rfl⟩
 rw [← hlz] at y0 hl1
 obtain ⟨hl2,hl3⟩:=hl1
 clear hlz hl0
 refine zaq ?_
 intro _ _
 go_upto_region 21 with fail
 go_wp2_with fail
 refine (zgi (3000+lz % 29000) ((i:Int)+3*(k:Int)) (by omega) (by omega) (by omega) (by omega) _).mono ?_
 rintro e w2 ⟨zs,ZA,hzl,hzw,rfl,hI,hb⟩
 replace X:=X.later hb
 replace V:=V.later hb
 have HI:=Z9 hI.1
 have HZ:=Z9 hzl
 have HW:=Z9 hzw
 clear hb hI hzl hzw y0 hl2 hl3
 obtain ⟨m,hm⟩:∃ m:Nat,m=i*n:=⟨_,rfl⟩
 have hmul:(i:Int)*(n:Int)=(m:Int):=by rw [hm];push_cast;rfl
 have hm1:m≤116:=by
  have:i*n≤29*4:=Nat.mul_le_mul (by omega) hn
  omega
 have hm2:(0:Int)≤(m:Int):=by omega
 have hm3:(m:Int)≤116:=by omega
 clear hm
 by_cases hq:m+k<ln
 rotate_left
 · have hq2:¬(m:Int)+(k:Int)<(ln:Int):=by omega
   go_upto_region 24 with fail
   refine zan (by assumption) ?_
   exact h _ _ ZA zs X V HI.out HZ.out HW.out (Fr.mk rfl ⟨rfl,rfl,rfl,rfl,rfl,rfl,rfl,rfl,rfl,rfl,rfl,rfl,rfl,rfl,rfl,trivial⟩)
 have hq2:(m:Int)+(k:Int)<(ln:Int):=by omega
 obtain ⟨bL,oL,rfl,hbL,hcL⟩:=hR (by omega)
 obtain ⟨x,hx⟩:∃ x,L[m+k]? = some x:=⟨_,List.getElem?_eq_getElem (by omega)⟩
 have hc0:=hcL (m+k) x hx 0 _ rfl
 rw [Nat.mul_one,Nat.add_zero] at hc0
 have y1:=(X.bel.cell (p:=⟨bL,oL+(m+k),none⟩) hbL).trans hc0
 have hq3:((m:Int)+(k:Int)).toNat=m+k:=by omega
 have hmk:∀ V:World,(Instr.makeSlice 51 (.int .i64 160) (.int .i64 160)).run Tryz.prog V = .ok (.slice (some ⟨V.heap.size,0,none⟩) 160 160) (V.alloc (.cells (madeCells #[.int .i16 0] 160) 104)):=fun V=>run_make_row' (P:=Tryz.prog) 51 104 (.int .i16 0) 2 Tryz.underlying51 zdj rfl .i64 .i64 160 (by omega) (by omega) V
 clear hcL hc0 hx hR hL
 cases x
 · go_upto_region 24 with fail
   refine zan (by assumption) ?_
   exact h _ _ ZA zs X V HI.out HZ.out HW.out (Fr.mk rfl ⟨rfl,rfl,rfl,rfl,rfl,rfl,rfl,rfl,rfl,rfl,rfl,rfl,rfl,rfl,rfl,trivial⟩)
 · go_upto_region 24 with fail
   refine zan (by assumption) ?_
   refine h _ _ (some ⟨w2.heap.size,0,none⟩) (List.replicate 160 0) (X.push _) (V.push _) ?_ (by simp) (fun z hz=>by rw [List.eq_of_mem_replicate hz];exact ⟨by decide,by decide⟩) (Fr.mk rfl ⟨rfl,rfl,rfl,rfl,rfl,rfl,rfl,rfl,rfl,rfl,rfl,rfl,rfl,rfl,rfl,trivial⟩)
   have hrow:=World.rowIs_made w2 (.int .i16 0) 160 104
   exact IntsAt.of_row hrow (by rw [List.length_replicate];exact Nat.le_refl _) (fun j hj=>by rw [List.length_replicate] at hj;rw [List.getD_eq_getElem?_getD,List.getElem?_replicate,if_pos hj];rfl)
noncomputable def vmC_code:Code:=(((findB 5 (Tryz.f3.body.getD .skip)).bind (fromReg 25)).getD .skip)
theorem zwx {w W:World} {b:VB} {cs ls:Nat→Int} {fm fi fo fe:Nat→PQ} {ts tt:Nat→TQ} {gF n i k:Nat} {LA:Option Addr} {ln lc:Nat} {fr:List TF} {Q:Exit→Act→World→Prop} {c:Int} {ZA:Option Addr} {zs:List Int} {zc:Nat} (X:VM w W b [gF] cs ls fm fi fo fe ts tt) (V:FV W b gF fr) (hk:k<n) (hn:n≤4) (hi:i<30) (P:PairI c (fm k) (fi k) (ts k) i) (HZ:IntsAt W W.heap.size .i16 ZA zs) (hzl:zs.length=160) (hzb:Within (-32768) 32767 zs)
 (hQp:∀ (ch:_) (a:Act) (d:Tmp) (u:Value) (w:World),Q (.panic ch) (a.put (some d) u) w→Q (.panic ch) a w)
 (h:∀ (W:World) (a:Act) (g8:Nat) (p' u':Sb.Pt) (A1:Option Addr) (c1:Nat) (A2:Option Addr) (n2 c2:Nat) (l2:List TW) (kd:Int) (TA:Option Addr) (tc:Nat) (tz:List Int) (SA:Option Addr) (sc:Nat) (ls':List TS),VM w W b [gF] cs ls (upd fm k ⟨p',A1,0,c1,[]⟩) (upd fi k ⟨u',A2,n2,c2,l2⟩) fo fe ts tt→FV W b gF fr→Blk W g8 53 #[.int .i64 kd, .slice TA tz.length tc]→b.gst<g8→g8≠gF→PairI c ⟨p',A1,0,c1,[]⟩ ⟨u',A2,n2,c2,l2⟩ ⟨kd,TA,tc,tz⟩ (i+1)→IntsAv W ([gF]++b.S) .i16 TA tz→SdAv W ([gF]++b.S) SA ls'→(∀ x∈ls',Within (-32768) 32767 x.s.zs)→(∀ V:World,Below W.heap.size W V→Calls Tryz.prog 9 #[.agg #[.int .i64 (ts k).kd, .slice (ts k).A (ts k).zs.length (ts k).c], .slice SA ls'.length sc, .int .i64 (20*(i:Int))] V fun e w'=>e = .returned (.bool true)∧Below V.heap.size V w')→(ls'=[]∨∃ x,ls'=[x]∧x.s.zs.length=160)→Fr 257 ((25, .pointer (some ⟨g8,0,none⟩))::(26, .slice SA ls'.length sc)::(27, .bool true)::(21, .int .i64 (20*(i:Int)))::(22, .slice (some ⟨gF,0,none⟩) n n)::(23, .int .i64 (k:Int))::FMs b LA ln lc n i) a→firstWp Tryz.prog vmC_code Q a W) (a:Act) (ha:Fr 257 ((24, .slice ZA 160 zc)::(21, .int .i64 (20*(i:Int)))::(22, .slice (some ⟨gF,0,none⟩) n n)::(23, .int .i64 (k:Int))::FMs b LA ln lc n i) a):firstWp Tryz.prog vmB_code Q a W:=by
 obtain ⟨s,rfl,hs⟩:=ha
 rw [r257]
 obtain ⟨e24,e21,e22,e23,e2,e3,e4,e7,e8,e9,e10,e11,e18,e19,e20,_⟩:=hs
 rw [e24,e21,e22,e23,e2,e3,e4,e7,e8,e9,e10,e11,e18,e19,e20]
 have hk4:k<4:=by omega
 have hi40:i<40:=by omega
 obtain ⟨⟨tk,hH,hT⟩,mn,mc,pq,pl,pc,pm⟩:=P
 have o0:=X.ord.o0;have o1:=X.ord.o1;have o2:=X.ord.o2;have o3:=X.ord.o3;have o4:=X.ord.o4;have o5:=X.ord.o5;have o6:=X.ord.o6;have o7:=X.ord.o7;have o8:=X.ord.o8
 have hgF:=(X.ft gF (by simp)).1
 have hgFW:=(X.ft gF (by simp)).2
 have hpf:partS (row4 fm) (k*48) 48=PL (fm k).p (fm k).A 0 (fm k).c:=by rw [zcy fm k hk4];unfold PQ.row;rw [mn]
 have C:HC W ([gF]++b.S) b.gm (k*48) b.gi (k*48) 46 46 (row4 fm) (row4 fi) c (fm k).p (fi k).p i tk (fm k).A (fm k).c (fi k).A (fi k).n (fi k).c (fi k).l ZA zs :=
  ⟨X.bm,X.bi,by omega,by simp [VB.S],by simp [VB.S],X.lts,hpf,by rw [zed];omega,zcy fi k hk4,by rw [zed];omega,mc,pq,pl,pc,pm,X.qi k hk4,hH,hi40,HZ,hzl,hzb⟩
 refine zaq ?_
 intro _ _
 refine zvc C k (by omega) (by omega) rfl rfl ?_ ?_
 · intro ch a d u w h;exact hQp _ _ _ _ _ h
 clear C
 intro wx g8 p' u' A1 c1 A2 n2 c2 l2 kd TA tn tc tz SA sn sc ls' tk' u131 u132 u133 u134 u135 u136 u137 u138 u139 u140 u141 htn hsn hg8 B8 HH
 subst htn hsn
 have hsub:∀ x ∈ [gF]++b.S,x∈g8::([gF]++b.S):=fun x hx=>List.mem_cons_of_mem _ hx
 have X2:=X.hopI k ⟨p',A1,0,c1,[]⟩ ⟨u',A2,n2,c2,l2⟩ HH.ch (by rw [← zbo fm k hk4];exact HH.bf) (by rw [← zbo fi k hk4];exact HH.bt) (HH.q.sub hsub)
 have V2:=V.chg HH.ch (by intro x hx;simp at hx;simp [VB.S];omega) (by simp;omega)
 have T2:=X2.ti k hk4
 have S2:SdAv wx ([gF]++b.S) SA ls':=⟨⟨HH.sd.1.1,fun h0 b' off e hb=>HH.sd.1.2 h0 b' off e (hsub _ hb)⟩,fun a ha=>(HH.sd.2 a ha).sub hsub⟩
 have hg9:b.gst<g8:=by have:=X.bt.lt;omega
 have kS:∀ V:World,Below wx.heap.size wx V→Calls Tryz.prog 9 #[.agg #[.int .i64 (ts k).kd, .slice (ts k).A (ts k).zs.length (ts k).c], .slice SA ls'.length sc, .int .i64 (20*(i:Int))] V fun e w'=>e = .returned (.bool true)∧Below V.heap.size V w':=fun V hV =>
  zdw hT HH.f2 rfl V (S2.later hV).sds (T2.1.later hV)
 have hls:ls'=[]∨∃ x,ls'=[x]∧x.s.zs.length=160:=by
  rcases hT.snd HH.f2 with ⟨h1,h2⟩|⟨d,h2,h3,h4,h5⟩
  · exact .inl (List.map_eq_nil_iff.1 h2)
  · obtain ⟨x,e1,e2⟩:=zgf h2
    exact .inr ⟨x,e1,by rw [e2];exact h4⟩
 go_upto_region 25 with fail
 refine zbh (by assumption) (by assumption) ?_
 refine h wx _ g8 p' u' A1 c1 A2 n2 c2 l2 kd TA tc tz SA sc ls' X2 V2 B8 hg9 (by omega) ⟨⟨tk',HH.hop,HH.tick⟩,rfl,HH.k1,HH.hq,HH.hn,HH.hc,HH.hm⟩ (HH.tza.sub hsub) S2 HH.bd kS hls ?_
 exact Fr.mk rfl ⟨rfl,rfl,rfl,rfl,rfl,rfl,rfl,rfl,rfl,rfl,rfl,rfl,rfl,rfl,rfl,rfl,rfl,trivial⟩
theorem zwy {w W:World} {b:VB} {cs ls:Nat→Int} {fm fi fo fe:Nat→PQ} {ts tt:Nat→TQ} {gF n i k:Nat} {LA:Option Addr} {ln lc:Nat} {fr:List TF} {Q:Exit→Act→World→Prop} {g8:Nat} {kd:Int} {TA:Option Addr} {tc:Nat} {tz:List Int} {SA:Option Addr} {sc:Nat} {ls':List TS} (X:VM w W b [gF] cs ls fm fi fo fe ts tt) (V:FV W b gF fr) (hk:k<n) (hn:n≤4) (hi:i<30) (hfr:fr.length=n) (B8:Blk W g8 53 #[.int .i64 kd, .slice TA tz.length tc]) (h8:b.gst<g8) (h8F:g8≠gF) (hT:IntsAv W ([gF]++b.S) .i16 TA tz) (S2:SdAv W ([gF]++b.S) SA ls') (hbd:∀ x∈ls',Within (-32768) 32767 x.s.zs)
 (kS:∀ V:World,Below W.heap.size W V→Calls Tryz.prog 9 #[.agg #[.int .i64 (ts k).kd, .slice (ts k).A (ts k).zs.length (ts k).c], .slice SA ls'.length sc, .int .i64 (20*(i:Int))] V fun e w'=>e = .returned (.bool true)∧Below V.heap.size V w') (hls:ls'=[]∨∃ x,ls'=[x]∧x.s.zs.length=160)
 (h:∀ (W:World) (a:Act) (fr:List TF),fr.length=n→VM w W b [gF] cs ls fm fi fo fe (upd ts k ⟨kd,TA,tc,tz⟩) tt→FV W b gF fr→Fr 257 ((21, .int .i64 (20*(i:Int)))::(22, .slice (some ⟨gF,0,none⟩) n n)::(23, .int .i64 (k:Int))::FMs b LA ln lc n i) a→Q .normal a W) (a:Act) (ha:Fr 257 ((25, .pointer (some ⟨g8,0,none⟩))::(26, .slice SA ls'.length sc)::(27, .bool true)::(21, .int .i64 (20*(i:Int)))::(22, .slice (some ⟨gF,0,none⟩) n n)::(23, .int .i64 (k:Int))::FMs b LA ln lc n i) a):firstWp Tryz.prog vmC_code Q a W:=by
 obtain ⟨s,rfl,hs⟩:=ha
 rw [r257]
 obtain ⟨e25,e26,e27,e21,e22,e23,e2,e3,e4,e7,e8,e9,e10,e11,e18,e19,e20,_⟩:=hs
 rw [e25,e26,e27,e21,e22,e23,e2,e3,e4,e7,e8,e9,e10,e11,e18,e19,e20]
 have hk4:k<4:=by omega
 have hk0:(0:Int)≤(k:Int):=by omega
 have hk1:(k:Int)<4:=by omega
 have hkn:(k:Int)<(n:Int):=by omega
 have o0:=X.ord.o0;have o1:=X.ord.o1;have o2:=X.ord.o2;have o3:=X.ord.o3;have o4:=X.ord.o4;have o5:=X.ord.o5;have o6:=X.ord.o6;have o7:=X.ord.o7;have o8:=X.ord.o8
 have hgF:=(X.ft gF (by simp)).1
 have y0:W.cell? ⟨b.gsd,k*2,none⟩=some (.int .i64 (ts k).kd):=X.bs.at _ _ (by rw [List.getElem?_toArray];exact (zee ts k hk4).1)
 have y1:W.cell? ⟨b.gsd,k*2+1,none⟩=some (.slice (ts k).A (ts k).zs.length (ts k).c):=X.bs.at _ _ (by rw [List.getElem?_toArray];exact (zee ts k hk4).2)
 replace kS:=Z9 (kS W (Below.refl _ _))
 generalize (ts k).kd=tk9 at y0 kS
 generalize (ts k).A=tA9 at y1 kS
 generalize (ts k).c=tc9 at y1 kS
 generalize (ts k).zs.length=tn9 at y1 kS
 refine zas ?_
 intro _ _ _ _
 go_upto_region 25 with fail
 go_wp2_with fail
 refine kS.out.mono ?_
 rintro e w2 ⟨rfl,hb⟩
 replace X:=X.later hb
 replace V:=V.later hb
 replace B8:=B8.later hb
 replace hT:=hT.chg (T:=[]) (Chg.of_below hb) (by simp)
 replace S2:=S2.later hb
 clear hb y0 y1 kS
 have hmT:∀ x ∈ [b.gsd],x ∈ [gF]++b.S:=by intro x hx;simp at hx;simp [VB.S,hx]
 rcases hls with rfl|⟨x,rfl,hx160⟩
 · go_upto_region 29 with fail
   go_wp2_with (first|(refine zae rfl 53 (.tmp 25) rfl g8 0 rfl 53 [.int .i64 kd, .slice TA tz.length tc] B8 2 _ Tryz.underlying53 zay (show 0+2≤2 by decide) #[.int .i64 kd, .slice TA tz.length tc] rfl rfl ?_)|(refine zaf rfl 53 (.tmp 165) (.tmp 164) rfl b.gsd (k*2) rfl 54 (tick4 ts) X.bs [.int .i64 kd, .slice TA tz.length tc] rfl zay (show k*2+2≤8 by omega) rfl _ (zcb ts k hk4 ⟨kd,TA,tc,tz⟩) ?_;intro WF BF OF)|fail)
   have X2:=X.setS k ⟨kd,TA,tc,tz⟩ OF BF hT
   have V2:=V.chg (Chg.of_only OF (S:=[b.gsd]) (by simp)) hmT (by simp;omega)
   exact h _ _ fr hfr X2 V2 (Fr.mk rfl ⟨rfl,rfl,rfl,rfl,rfl,rfl,rfl,rfl,rfl,rfl,rfl,rfl,rfl,rfl,trivial⟩)
 obtain ⟨bS,oS,rfl,hbS,x0,x1,x2⟩:=zkg (k:=0) S2.1.1 (a:=x) rfl
 simp only [Nat.zero_mul,Nat.add_zero] at x0 x1 x2
 have hxI:=S2.2 x (by simp)
 have hxB:=hbd x (by simp)
 obtain ⟨a0,ha0⟩:∃ a0,fr[k]? = some a0:=⟨_,List.getElem?_eq_getElem (by omega)⟩
 have z0:w2.cell? ⟨gF,k,none⟩=some (.slice a0.A a0.zs.length a0.c):=V.blk.at _ _ (by rw [List.getElem?_toArray];exact zis fr k a0 ha0)
 have zf:=V.blk.frozen k
 generalize hvv:Value.slice a0.A a0.zs.length a0.c=v0 at z0
 have HX:=Z9 hx160
 clear ha0 x0 x2 hx160
 go_upto_region 29 with fail
 have hO:OnlyB gF w2 (w2.setCell ⟨gF,k,none⟩ (.slice x.S x.s.zs.length x.c)):=OnlyB.setCell w2 gF k _
 have hmF:∀ y ∈ [gF],y ∈ [gF]++b.S:=fun y hy=>List.mem_append_left _ hy
 have V3:=V.set k ⟨x.S,x.c,x.s.zs⟩ hxI (by show x.s.zs.length≤160;have:=HX.out;omega) hxB
 simp only at V3
 replace X:=X.setF (by simp) hO
 replace B8:=hO.blk B8 h8F
 replace hT:=hT.chg (Chg.of_only hO (S:=[gF]) (by simp)) hmF
 clear hO x1 z0 zf
 generalize w2.setCell ⟨gF,k,none⟩ (.slice x.S x.s.zs.length x.c)=W3 at X V3 B8 hT ⊢
 go_wp2_with (first|(refine zae rfl 53 (.tmp 25) rfl g8 0 rfl 53 [.int .i64 kd, .slice TA tz.length tc] B8 2 _ Tryz.underlying53 zay (show 0+2≤2 by decide) #[.int .i64 kd, .slice TA tz.length tc] rfl rfl ?_)|(refine zaf rfl 53 (.tmp 165) (.tmp 164) rfl b.gsd (k*2) rfl 54 (tick4 ts) X.bs [.int .i64 kd, .slice TA tz.length tc] rfl zay (show k*2+2≤8 by omega) rfl _ (zcb ts k hk4 ⟨kd,TA,tc,tz⟩) ?_;intro WF BF OF)|fail)
 have X2:=X.setS k ⟨kd,TA,tc,tz⟩ OF BF hT
 have V2:=V3.chg (Chg.of_only OF (S:=[b.gsd]) (by simp)) hmT (by simp;omega)
 exact h _ _ _ (by rw [List.length_set];exact hfr) X2 V2 (Fr.mk rfl ⟨rfl,rfl,rfl,rfl,rfl,rfl,rfl,rfl,rfl,rfl,rfl,rfl,rfl,rfl,trivial⟩)
noncomputable def vm18_code:Code:=(((findB 3 (Tryz.f3.body.getD .skip)).bind (fromReg 18)).getD .skip)
noncomputable def vm30_code:Code:=(((findB 3 (Tryz.f3.body.getD .skip)).bind (fromReg 30)).getD .skip)
theorem zve {w W:World} {b:VB} {cs ls:Nat→Int} {fm fi fo fe:Nat→PQ} {ts tt:Nat→TQ} {gF n i:Nat} {LA:Option Addr} {ln lc:Nat} {fr:List TF} {Q:Exit→Act→World→Prop} (X:VM w W b [gF] cs ls fm fi fo fe ts tt) (V:FV W b gF fr) (hn:n≤4) (hi:i<30) (hfr:fr.length=n) (L:List Bool) (hL:L.length=ln) (hR:RowsAt w w.heap.size 1 (fun x:Bool => [Value.bool x]) LA L) (hl0:∀ j,j<4→0≤ls j∧ls j≤65535) (hP:∀ j,j<n→PairI (cod3 (cs j)) (fm j) (fi j) (ts j) i)
 (hQp:∀ (ch:_) (a:Act) (d:Tmp) (u:Value) (w:World),Q (.panic ch) (a.put (some d) u) w→Q (.panic ch) a w)
 (h:∀ (W:World) (a:Act) (fr:List TF) (fm fi:Nat→PQ) (ts:Nat→TQ),VM w W b [gF] cs ls fm fi fo fe ts tt→FV W b gF fr→fr.length=n→(∀ j,j<n→PairI (cod3 (cs j)) (fm j) (fi j) (ts j) (i+1))→Fr 257 ((21, .int .i64 (20*(i:Int)))::(22, .slice (some ⟨gF,0,none⟩) n n)::FMs b LA ln lc n i) a→firstWp Tryz.prog vm30_code Q a W) (a:Act) (ha:Fr 257 ((21, .int .i64 (20*(i:Int)))::(22, .slice (some ⟨gF,0,none⟩) n n)::FMs b LA ln lc n i) a):firstWp Tryz.prog vm18_code Q a W:=by
 obtain ⟨s,rfl,hs⟩:=ha
 rw [r257]
 obtain ⟨e21,e22,e2,e3,e4,e7,e8,e9,e10,e11,e18,e19,e20,_⟩:=hs
 rw [e21,e22,e2,e3,e4,e7,e8,e9,e10,e11,e18,e19,e20]
 refine zas ?_
 intro _ _ _ _
 go_upto_region 18 with fail
 go_wp2_with fail
 refine wp_loop_rounds (n+1) (zbn (fun m a wr => ∃ (k:Nat) (fr:List TF) (fm fi:Nat→PQ) (ts:Nat→TQ),m+k=n∧VM w wr b [gF] cs ls fm fi fo fe ts tt∧FV wr b gF fr∧fr.length=n∧(∀ j,j<n→PairI (cod3 (cs j)) (fm j) (fi j) (ts j) (if j<k then i+1 else i))∧Fr 257 ((21, .int .i64 (20*(i:Int)))::(22, .slice (some ⟨gF,0,none⟩) n n)::(23, .int .i64 (k:Int))::FMs b LA ln lc n i) a) (fun m a wr hJ => ?_) n _ _ ⟨0,fr,fm,fi,ts,rfl,X,V,hfr,fun j hj=>by rw [if_neg (by omega)];exact hP j hj,Fr.mk rfl ⟨rfl,rfl,rfl,rfl,rfl,rfl,rfl,rfl,rfl,rfl,rfl,rfl,rfl,rfl,trivial⟩⟩)
 clear X V hfr hP
 obtain ⟨k,fr,fm,fi,ts,hm,X,V,hfr,hP,ha⟩:=hJ
 obtain ⟨s,rfl,hs⟩:=ha
 rw [r257]
 obtain ⟨e21,e22,e23,e2,e3,e4,e7,e8,e9,e10,e11,e18,e19,e20,_⟩:=hs
 rw [e21,e22,e23,e2,e3,e4,e7,e8,e9,e10,e11,e18,e19,e20]
 have hk0:(0:Int)≤(k:Int):=by omega
 by_cases hk:k<n
 rotate_left
 · have hk2:¬(k:Int)<(n:Int):=by omega
   go_upto_region 30 with fail
   refine zan (by assumption) ?_
   exact h _ _ fr fm fi ts X V hfr (fun j hj=>by have:=hP j hj;rwa [if_pos (by omega)] at this) (Fr.mk rfl ⟨rfl,rfl,rfl,rfl,rfl,rfl,rfl,rfl,rfl,rfl,rfl,rfl,rfl,trivial⟩)
 have hk2:(k:Int)<(n:Int):=by omega
 have Pk:=hP k hk
 rw [if_neg (by omega)] at Pk
 go_upto_region 21 with fail
 refine zan (by assumption) ?_
 refine zww X V hk hn hi L hL hR hl0 (fun W a ZA zs X V HZ hzl hzb ha => ?_) _ (Fr.mk rfl ⟨rfl,rfl,rfl,rfl,rfl,rfl,rfl,rfl,rfl,rfl,rfl,rfl,rfl,rfl,trivial⟩)
 refine zwx X V hk hn hi Pk HZ hzl hzb (by intro ch a d u w h;exact hQp ch a d u w h) (fun W a g8 p' u' A1 c1 A2 n2 c2 l2 kd TA tc tz SA sc ls' X V B8 h8 h8F P' hT S2 hbd kS hls ha => ?_) _ ha
 refine zwy X V hk hn hi hfr B8 h8 h8F hT S2 hbd kS hls (fun W a fr2 hfr2 X V ha => ?_) _ ha
 have hP2:∀ j,j<n→PairI (cod3 (cs j)) (upd fm k ⟨p',A1,0,c1,[]⟩ j) (upd fi k ⟨u',A2,n2,c2,l2⟩ j) (upd ts k ⟨kd,TA,tc,tz⟩ j) (if j<k+1 then i+1 else i):=fun j hj=>by
  by_cases e:j=k
  · rw [e,zcn,zcn,zcn,if_pos (by omega)];exact P'
  · rw [zco _ _ _ _ e,zco _ _ _ _ e,zco _ _ _ _ e]
    have h9:=hP j hj
    by_cases e2:j<k
    · rw [if_pos e2] at h9;rw [if_pos (by omega)];exact h9
    · rw [if_neg e2] at h9;rw [if_neg (by omega)];exact h9
 clear hP Pk P' kS hls
 obtain ⟨s,rfl,hs⟩:=ha
 rw [r257]
 obtain ⟨e21,e22,e23,e2,e3,e4,e7,e8,e9,e10,e11,e18,e19,e20,_⟩:=hs
 rw [e21,e22,e23,e2,e3,e4,e7,e8,e9,e10,e11,e18,e19,e20]
 go_wp2_with fail
 exact ⟨m-1,by omega,k+1,fr2,_,_,_,by omega,X,V,hfr2,hP2,Fr.mk rfl ⟨rfl,rfl,rfl,rfl,rfl,rfl,rfl,rfl,rfl,rfl,rfl,rfl,rfl,rfl,trivial⟩⟩
structure MV (W:World) (b:VB) (gF gM:Nat) (fs:List (List Int)) (hs:List TF):Prop where
 row:∀ (k:Nat) (a:TF),hs[k]? = some a→W.cell? ⟨gM,k,none⟩=some (.slice a.A a.zs.length a.c)
 lt:gM<W.heap.size
 av:gM ∉ [gF]++b.S
 pay:∀ a∈hs,IntsAv W ([gF]++b.S) .i16 a.A a.zs
 val:hs.map TF.zs=(List.range fs.length).map (Sb.mixL fs)
theorem MV.chg {W W':World} {b:VB} {gF gM:Nat} {fs:List (List Int)} {hs:List TF} {T:List Nat} (h:MV W b gF gM fs hs) (hc:Chg T W W') (ht:∀ x∈T,x ∈ [gF]++b.S):MV W' b gF gM fs hs :=
 ⟨fun k a ha=>(hc.cell (p:=⟨gM,k,none⟩) h.lt (fun hx=>h.av (ht _ hx))).trans (h.row k a ha),Nat.lt_of_lt_of_le h.lt hc.size,h.av,fun a ha=>(h.pay a ha).chg hc ht,h.val⟩
theorem MV.later {W W':World} {b:VB} {gF gM:Nat} {fs:List (List Int)} {hs:List TF} (h:MV W b gF gM fs hs) (hb:Below W.heap.size W W'):MV W' b gF gM fs hs:=h.chg (T:=[]) (Chg.of_below hb) (by simp)
theorem MV.len {W:World} {b:VB} {gF gM:Nat} {fs:List (List Int)} {hs:List TF} (h:MV W b gF gM fs hs):hs.length=fs.length:=by have:=congrArg List.length h.val;simpa using this
theorem MV.zs {W:World} {b:VB} {gF gM:Nat} {fs:List (List Int)} {hs:List TF} (h:MV W b gF gM fs hs) {k:Nat} {a:TF} (ha:hs[k]? = some a):a.zs=Sb.mixL fs k:=by
 have h1:(hs.map TF.zs)[k]? = some a.zs:=by rw [List.getElem?_map,ha];rfl
 have hk:k<fs.length:=by rw [← h.len];exact (List.getElem?_eq_some_iff.1 ha).1
 rw [h.val,List.getElem?_map,List.getElem?_range hk] at h1
 injection h1 with h1
 exact h1.symm
noncomputable def vm33_code:Code:=(((findB 3 (Tryz.f3.body.getD .skip)).bind (fromReg 33)).getD .skip)
theorem zvf {w W:World} {b:VB} {cs ls:Nat→Int} {fm fi fo fe:Nat→PQ} {ts tt:Nat→TQ} {gF n i:Nat} {LA:Option Addr} {ln lc:Nat} {fr:List TF} {Q:Exit→Act→World→Prop} (X:VM w W b [gF] cs ls fm fi fo fe ts tt) (V:FV W b gF fr) (hn1:0<n) (hn:n≤4) (hfr:fr.length=n)
 (h:∀ (W:World) (a:Act) (gM:Nat) (hs:List TF),VM w W b [gF] cs ls fm fi fo fe ts tt→FV W b gF fr→MV W b gF gM (fr.map TF.zs) hs→Fr 257 ((21, .int .i64 (20*(i:Int)))::(22, .slice (some ⟨gF,0,none⟩) n n)::(28, .slice (some ⟨gM,0,none⟩) n n)::FMs b LA ln lc n i) a→firstWp Tryz.prog vm33_code Q a W) (a:Act) (ha:Fr 257 ((21, .int .i64 (20*(i:Int)))::(22, .slice (some ⟨gF,0,none⟩) n n)::FMs b LA ln lc n i) a):firstWp Tryz.prog vm30_code Q a W:=by
 obtain ⟨s,rfl,hs⟩:=ha
 rw [r257]
 obtain ⟨e21,e22,e2,e3,e4,e7,e8,e9,e10,e11,e18,e19,e20,_⟩:=hs
 rw [e21,e22,e2,e3,e4,e7,e8,e9,e10,e11,e18,e19,e20]
 have kM:=Z9 (ztv (some ⟨gF,0,none⟩) fr n W V.frs ⟨by omega,V.z160,V.bd⟩)
 unfold MixR at kM
 rw [List.length_map,hfr] at kM
 refine zaq ?_
 intro _ _
 go_upto_region 30 with fail
 go_wp2_with fail
 refine kM.out.mono ?_
 rintro e w2 ⟨gM,hs',rfl,hv,hlo,hrow,hp,hb⟩
 have hlt:=X.lts
 have X2:=X.later hb
 have V2:=V.later hb
 have hl:hs'.length=n:=by have:=congrArg List.length hv;simpa using this
 have hM:MV w2 b gF gM (fr.map TF.zs) hs'→gM<w2.heap.size:=fun h=>h.lt
 have M2:MV w2 b gF gM (fr.map TF.zs) hs':=by
  refine ⟨fun k a ha => ?_,?_,?_,fun a ha=>IntsAv.of_new (hp a ha) hlt,by rw [hv,List.length_map,hfr]⟩
  · obtain ⟨b',off,e,_,hc⟩:=hrow (by have:=(List.getElem?_eq_some_iff.1 ha).1;omega)
    injection e with e;injection e with e1 e2
    have h9:=hc k a ha 0 _ rfl
    rw [← e1,← e2,show 0+k*1+0=k by omega] at h9
    exact h9
  · obtain ⟨b',off,e,hlt',_⟩:=hrow (by omega)
    injection e with e;injection e with e1 e2
    rw [e1];exact hlt'
  · intro hx
    have:=hlt _ hx
    omega
 clear hM hrow hp hb hlo kM hlt hv
 go_upto_region 33 with fail
 refine zan (by assumption) ?_
 exact h _ _ gM hs' X2 V2 M2 (Fr.mk rfl ⟨rfl,rfl,rfl,rfl,rfl,rfl,rfl,rfl,rfl,rfl,rfl,rfl,rfl,rfl,trivial⟩)
noncomputable def vm36_code:Code:=(((findB 7 (Tryz.f3.body.getD .skip)).bind (fromReg 36)).getD .skip)
noncomputable def vm37_code:Code:=(((findB 7 (Tryz.f3.body.getD .skip)).bind (fromReg 37)).getD .skip)
theorem zvg {w W:World} {b:VB} {cs ls:Nat→Int} {fm fi fo fe:Nat→PQ} {ts tt:Nat→TQ} {gF gM n i k:Nat} {LA:Option Addr} {ln lc:Nat} {fr hs:List TF} {Q:Exit→Act→World→Prop} {c:Int} (X:VM w W b [gF] cs ls fm fi fo fe ts tt) (V:FV W b gF fr) (M:MV W b gF gM (fr.map TF.zs) hs) (hk:k<n) (hn:n≤4) (hi:i<30) (hfr:fr.length=n) (P:PairI c (fo k) (fe k) (tt k) i)
 (hQp:∀ (ch:_) (a:Act) (d:Tmp) (u:Value) (w:World),Q (.panic ch) (a.put (some d) u) w→Q (.panic ch) a w)
 (h:∀ (W:World) (a:Act) (g8:Nat) (p' u':Sb.Pt) (A1:Option Addr) (c1:Nat) (A2:Option Addr) (n2 c2:Nat) (l2:List TW) (kd:Int) (TA:Option Addr) (tc:Nat) (tz:List Int) (SA:Option Addr) (sc:Nat) (ls':List TS),VM w W b [gF] cs ls fm fi (upd fo k ⟨p',A1,0,c1,[]⟩) (upd fe k ⟨u',A2,n2,c2,l2⟩) ts tt→FV W b gF fr→MV W b gF gM (fr.map TF.zs) hs→Blk W g8 53 #[.int .i64 kd, .slice TA tz.length tc]→b.gst<g8→PairI c ⟨p',A1,0,c1,[]⟩ ⟨u',A2,n2,c2,l2⟩ ⟨kd,TA,tc,tz⟩ (i+1)→IntsAv W ([gF]++b.S) .i16 TA tz→(∀ V:World,Below W.heap.size W V→Calls Tryz.prog 9 #[.agg #[.int .i64 (tt k).kd, .slice (tt k).A (tt k).zs.length (tt k).c], .slice SA ls'.length sc, .int .i64 (20*(i:Int))] V fun e w'=>e = .returned (.bool true)∧Below V.heap.size V w')→(kd=1→tz=Sb.decS c (Sb.enc c ((fo k).p.cv,(fo k).p.ci) (Sb.mixL (fr.map TF.zs) k)).1∧tz.length=160)→Fr 257 ((31, .pointer (some ⟨g8,0,none⟩))::(32, .slice SA ls'.length sc)::(33, .bool true)::(21, .int .i64 (20*(i:Int)))::(22, .slice (some ⟨gF,0,none⟩) n n)::(28, .slice (some ⟨gM,0,none⟩) n n)::(30, .int .i64 (k:Int))::FMs b LA ln lc n i) a→firstWp Tryz.prog vm37_code Q a W) (a:Act) (ha:Fr 257 ((21, .int .i64 (20*(i:Int)))::(22, .slice (some ⟨gF,0,none⟩) n n)::(28, .slice (some ⟨gM,0,none⟩) n n)::(30, .int .i64 (k:Int))::FMs b LA ln lc n i) a):firstWp Tryz.prog vm36_code Q a W:=by
 obtain ⟨s,rfl,hs9⟩:=ha
 rw [r257]
 obtain ⟨e21,e22,e28,e30,e2,e3,e4,e7,e8,e9,e10,e11,e18,e19,e20,_⟩:=hs9
 rw [e21,e22,e28,e30,e2,e3,e4,e7,e8,e9,e10,e11,e18,e19,e20]
 have hk4:k<4:=by omega
 have hi40:i<40:=by omega
 obtain ⟨⟨tk,hH,hT⟩,mn,mc,pq,pl,pc,pm⟩:=P
 have hml:=M.len
 rw [List.length_map,hfr] at hml
 obtain ⟨mx,hmx⟩:∃ x,hs[k]? = some x:=⟨_,List.getElem?_eq_getElem (by omega)⟩
 have xm:=M.row k mx hmx
 have hmz:=M.zs hmx
 have hml2:mx.zs.length=160:=by rw [hmz,Sb.mixL_len]
 rw [hml2] at xm
 have HZ:=(M.pay mx (List.mem_of_getElem? hmx)).1
 have hMa:=M.av
 have hMl:=M.lt
 have o0:=X.ord.o0;have o1:=X.ord.o1;have o2:=X.ord.o2;have o3:=X.ord.o3;have o4:=X.ord.o4;have o5:=X.ord.o5;have o6:=X.ord.o6;have o7:=X.ord.o7;have o8:=X.ord.o8
 have hgF:=(X.ft gF (by simp)).1
 have hMo:gM≠b.go:=fun e=>hMa (by rw [e];simp [VB.S])
 have hMe:gM≠b.ge:=fun e=>hMa (by rw [e];simp [VB.S])
 have hpf:partS (row4 fo) (k*48) 48=PL (fo k).p (fo k).A 0 (fo k).c:=by rw [zcy fo k hk4];unfold PQ.row;rw [mn]
 have C:HC W ([gF]++b.S) b.go (k*48) b.ge (k*48) 46 46 (row4 fo) (row4 fe) c (fo k).p (fe k).p i tk (fo k).A (fo k).c (fe k).A (fe k).n (fe k).c (fe k).l mx.A mx.zs :=
  ⟨X.bo,X.be,by omega,by simp [VB.S],by simp [VB.S],X.lts,hpf,by rw [zed];omega,zcy fe k hk4,by rw [zed];omega,mc,pq,pl,pc,pm,X.qe k hk4,hH,hi40,HZ,hml2,by rw [hmz];exact Sb.mixL_bd _ _⟩
 refine zaq ?_
 intro _ _
 refine zvd C k (by omega) (by omega) rfl rfl gM n (by omega) xm hMl hMo hMe ?_ ?_
 · intro ch a d u w h;exact hQp _ _ _ _ _ h
 clear C
 intro wx g8 p' u' A1 c1 A2 n2 c2 l2 kd TA tn tc tz SA sn sc ls' tk' u184 u185 u186 u187 u188 u189 u190 u191 u192 u193 u194 u195 u196 u197 htn hsn hg8 B8 HH
 subst htn hsn
 have hsub:∀ x ∈ [gF]++b.S,x∈g8::([gF]++b.S):=fun x hx=>List.mem_cons_of_mem _ hx
 have hin:∀ x ∈ [b.go,b.ge],x ∈ [gF]++b.S:=by intro x hx;simp at hx;simp [VB.S];omega
 have X2:=X.hopE k ⟨p',A1,0,c1,[]⟩ ⟨u',A2,n2,c2,l2⟩ HH.ch (by rw [← zbo fo k hk4];exact HH.bf) (by rw [← zbo fe k hk4];exact HH.bt) (HH.q.sub hsub)
 have V2:=V.chg HH.ch hin (by simp;omega)
 have M2:=M.chg HH.ch hin
 have T2:=X2.te k hk4
 have S2:SdAv wx ([gF]++b.S) SA ls':=⟨⟨HH.sd.1.1,fun h0 b' off e hb=>HH.sd.1.2 h0 b' off e (hsub _ hb)⟩,fun a ha=>(HH.sd.2 a ha).sub hsub⟩
 have hg9:b.gst<g8:=by have:=X.bt.lt;omega
 have kS:∀ V:World,Below wx.heap.size wx V→Calls Tryz.prog 9 #[.agg #[.int .i64 (tt k).kd, .slice (tt k).A (tt k).zs.length (tt k).c], .slice SA ls'.length sc, .int .i64 (20*(i:Int))] V fun e w'=>e = .returned (.bool true)∧Below V.heap.size V w':=fun V hV =>
  zdw hT HH.f2 rfl V (S2.later hV).sds (T2.1.later hV)
 have hen:kd=1→tz=Sb.decS c (Sb.enc c ((fo k).p.cv,(fo k).p.ci) (Sb.mixL (fr.map TF.zs) k)).1∧tz.length=160:=fun h1=>by
  refine ⟨by rw [← hmz];exact HH.en h1,?_⟩
  have ht:=HH.tick
  rw [h1] at ht
  cases ht with
  | speech zs h=>exact h
 go_upto_region 37 with fail
 refine zbh (by assumption) (by assumption) ?_
 refine h wx _ g8 p' u' A1 c1 A2 n2 c2 l2 kd TA tc tz SA sc ls' X2 V2 M2 B8 hg9 ⟨⟨tk',HH.hop,HH.tick⟩,rfl,HH.k1,HH.hq,HH.hn,HH.hc,HH.hm⟩ (HH.tza.sub hsub) kS hen ?_
 exact Fr.mk rfl ⟨rfl,rfl,rfl,rfl,rfl,rfl,rfl,rfl,rfl,rfl,rfl,rfl,rfl,rfl,rfl,rfl,rfl,rfl,trivial⟩
noncomputable def vm39_code:Code:=(((findB 7 (Tryz.f3.body.getD .skip)).bind (fromReg 39)).getD .skip)
theorem Frs.later {w w':World} {A:Option Addr} {l:List TF} (h:Frs w w.heap.size A l) (hb:Below w.heap.size w w'):Frs w' w'.heap.size A l:=⟨(h.1.keep fun _ hp=>hb.cell hp).more hb.size,fun a ha=>(h.2 a ha).later hb⟩
theorem zvh {w W:World} {b:VB} {cs ls:Nat→Int} {fm fi fo fe:Nat→PQ} {ts tt:Nat→TQ} {gF gM n i k:Nat} {LA:Option Addr} {ln lc:Nat} {fr hs:List TF} {Q:Exit→Act→World→Prop} {g8:Nat} {kd:Int} {TA:Option Addr} {tc:Nat} {tz:List Int} {SA:Option Addr} {sc:Nat} {ls':List TS} (X:VM w W b [gF] cs ls fm fi fo fe ts tt) (V:FV W b gF fr) (M:MV W b gF gM (fr.map TF.zs) hs) (hk:k<n) (hn:n≤4) (hi:i<30) (hfr:fr.length=n) (B8:Blk W g8 53 #[.int .i64 kd, .slice TA tz.length tc]) (hT:IntsAv W ([gF]++b.S) .i16 TA tz) (kS:(∀ V:World,Below W.heap.size W V→Calls Tryz.prog 9 #[.agg #[.int .i64 (tt k).kd, .slice (tt k).A (tt k).zs.length (tt k).c], .slice SA ls'.length sc, .int .i64 (20*(i:Int))] V fun e w'=>e = .returned (.bool true)∧Below V.heap.size V w'))
 (h:∀ (W:World) (a:Act),VM w W b [gF] cs ls fm fi fo fe ts tt→FV W b gF fr→MV W b gF gM (fr.map TF.zs) hs→Blk W g8 53 #[.int .i64 kd, .slice TA tz.length tc]→IntsAv W ([gF]++b.S) .i16 TA tz→Fr 257 ((31, .pointer (some ⟨g8,0,none⟩))::(21, .int .i64 (20*(i:Int)))::(22, .slice (some ⟨gF,0,none⟩) n n)::(28, .slice (some ⟨gM,0,none⟩) n n)::(30, .int .i64 (k:Int))::FMs b LA ln lc n i) a→firstWp Tryz.prog vm39_code Q a W) (a:Act) (ha:Fr 257 ((31, .pointer (some ⟨g8,0,none⟩))::(32, .slice SA ls'.length sc)::(33, .bool true)::(21, .int .i64 (20*(i:Int)))::(22, .slice (some ⟨gF,0,none⟩) n n)::(28, .slice (some ⟨gM,0,none⟩) n n)::(30, .int .i64 (k:Int))::FMs b LA ln lc n i) a):firstWp Tryz.prog vm37_code Q a W:=by
 have V0:=V
 obtain ⟨s,rfl,hs9⟩:=ha
 rw [r257]
 obtain ⟨e31,e32,e33,e21,e22,e28,e30,e2,e3,e4,e7,e8,e9,e10,e11,e18,e19,e20,_⟩:=hs9
 rw [e31,e32,e33,e21,e22,e28,e30,e2,e3,e4,e7,e8,e9,e10,e11,e18,e19,e20]
 have hk4:k<4:=by omega
 have hk0:(0:Int)≤(k:Int):=by omega
 have hk1:(k:Int)<4:=by omega
 have hkn:(k:Int)<(n:Int):=by omega
 have hml:=M.len
 rw [List.length_map,hfr] at hml
 obtain ⟨mx,hmx⟩:∃ x,hs[k]? = some x:=⟨_,List.getElem?_eq_getElem (by omega)⟩
 have xm:=M.row k mx hmx
 have hmz:=M.zs hmx
 have hml2:mx.zs.length=160:=by rw [hmz,Sb.mixL_len]
 rw [hml2] at xm
 have HZ:=Z9 (M.pay mx (List.mem_of_getElem? hmx)).1
 have y0:W.cell? ⟨b.gst,k*2,none⟩=some (.int .i64 (tt k).kd):=X.bt.at _ _ (by rw [List.getElem?_toArray];exact (zee tt k hk4).1)
 have y1:W.cell? ⟨b.gst,k*2+1,none⟩=some (.slice (tt k).A (tt k).zs.length (tt k).c):=X.bt.at _ _ (by rw [List.getElem?_toArray];exact (zee tt k hk4).2)
 have kO:=fun (V:World) (hV:Frs V V.heap.size (some ⟨gF,0,none⟩) fr)=>zls (some ⟨gF,0,none⟩) fr n k (by omega) V hV ⟨by omega,V0.z160,V0.bd⟩
 rw [hfr] at kO
 have kQ:=fun (V:World) (B:Option Addr) hA hB=>zck mx.A B mx.zs 160 mx.c 160 hml2 V hA hB (by omega)
 rw [hmz] at kQ HZ
 have VF:=Z9 V0.frs
 replace kO:=Z9 kO
 replace kQ:=Z9 kQ
 replace kS:=Z9 kS
 generalize Sb.mixL (fr.map TF.zs) k=mz at kO kQ HZ
 generalize (tt k).kd=tk9 at y0 kS
 generalize (tt k).A=tA9 at y1 kS
 generalize (tt k).c=tc9 at y1 kS
 generalize (tt k).zs.length=tn9 at y1 kS
 generalize mx.A=mA at xm kQ HZ
 generalize mx.c=mc at xm kQ
 clear hmz hml2 hmx hml
 obtain ⟨gst,hgst⟩:∃ g,g=b.gst:=⟨_,rfl⟩
 rw [← hgst] at y0 y1 ⊢
 have HG:=Z9 hgst
 clear hgst e2 e3 e4 e7 e8 e9 e10 e11 e18 e19 e20 e21 e22 e28 e30 e31 e32 e33
 refine zas ?_
 intro _ _ _ _
 go_upto_region 37 with fail
 go_region_held3 (fun w'=>Below W.heap.size W w'∧w'.cell? ⟨gst,k*2,none⟩=some (.int .i64 tk9)∧w'.cell? ⟨gst,k*2+1,none⟩=some (.slice tA9 tn9 tc9)∧w'.cell? ⟨gM,k,none⟩=some (.slice mA 160 mc))
  (first|assumption|((try go_split_ands);refine zbv ?_ (fun hbX=>⟨zag hbX y0,zag hbX y1,zag hbX xm⟩);(with_reducible repeat first|assumption|exact Below.refl _ _|exact zak (by assumption) (by assumption)|refine Below.drew ?_|refine zah ?_ _)))
  (first
   | (go_at_call 9;refine (kS.out _ (by (try go_split_ands);first|assumption|exact Below.drew (Below.refl _ _))).mono ?_;rintro e w7 ⟨rfl,qb⟩;have hbw:Below W.heap.size W w7:=zak qb (by (try go_split_ands);first|assumption|exact Below.drew (Below.refl _ _)))
   | (go_at_call 12;refine (kO.out _ (VF.out.later (by (try go_split_ands);first|assumption|exact Below.drew (Below.refl _ _)))).mono ?_;rintro e w8 ⟨B,rfl,hIB,hbel2⟩;have hbw2:Below W.heap.size W w8:=zak hbel2 (by (try go_split_ands);first|assumption|exact Below.drew (Below.refl _ _)))
   | (go_at_call 11;refine (kQ.out _ _ (HZ.out.later (by (try go_split_ands);first|assumption|exact Below.drew (Below.refl _ _))) hIB.1).mono ?_;rintro e w9 ⟨rfl,hbel3⟩;have hbw3:Below W.heap.size W w9:=zak hbel3 (by (try go_split_ands);first|assumption|exact Below.drew (Below.refl _ _))))
 all_goals
  go_upto_region 39 with fail
  refine zbh (by assumption) (by assumption) ?_
  have hg:=HG.out
  subst hg
  exact h _ _ (X.later hbw3) (V.later hbw3) (M.later hbw3) (B8.later hbw3) (hT.chg (T:=[]) (Chg.of_below hbw3) (by simp)) (Fr.mk rfl ⟨rfl,rfl,rfl,rfl,rfl,rfl,rfl,rfl,rfl,rfl,rfl,rfl,rfl,rfl,rfl,rfl,trivial⟩)
theorem zvi {w W:World} {b:VB} {cs ls:Nat→Int} {fm fi fo fe:Nat→PQ} {ts tt:Nat→TQ} {gF gM n i k:Nat} {LA:Option Addr} {ln lc:Nat} {fr hs:List TF} {Q:Exit→Act→World→Prop} {g8:Nat} {kd:Int} {TA:Option Addr} {tc:Nat} {tz:List Int} (X:VM w W b [gF] cs ls fm fi fo fe ts tt) (V:FV W b gF fr) (M:MV W b gF gM (fr.map TF.zs) hs) (hk:k<n) (hn:n≤4) (hi:i<30) (hfr:fr.length=n) (B8:Blk W g8 53 #[.int .i64 kd, .slice TA tz.length tc]) (h8:b.gst<g8) (hT:IntsAv W ([gF]++b.S) .i16 TA tz) (hcs:∀ j,j<4→0≤cs j∧cs j≤255) (cv ci:Int) (hv:Dlt.valid cv ci=true) (hkd:kd=0∨kd=1∨kd=2) (hen:kd=1→tz=Sb.decS (cod3 (cs k)) (Sb.enc (cod3 (cs k)) (cv,ci) (Sb.mixL (fr.map TF.zs) k)).1∧tz.length=160)
 (hQp:∀ (ch:_) (a:Act) (d:Tmp) (u:Value) (w:World),Q (.panic ch) (a.put (some d) u) w→Q (.panic ch) a w)
 (h:∀ (W:World) (a:Act),VM w W b [gF] cs ls fm fi fo fe ts (upd tt k ⟨kd,TA,tc,tz⟩)→FV W b gF fr→MV W b gF gM (fr.map TF.zs) hs→Fr 257 ((21, .int .i64 (20*(i:Int)))::(22, .slice (some ⟨gF,0,none⟩) n n)::(28, .slice (some ⟨gM,0,none⟩) n n)::(30, .int .i64 (k:Int))::FMs b LA ln lc n i) a→Q .normal a W) (a:Act) (ha:Fr 257 ((31, .pointer (some ⟨g8,0,none⟩))::(21, .int .i64 (20*(i:Int)))::(22, .slice (some ⟨gF,0,none⟩) n n)::(28, .slice (some ⟨gM,0,none⟩) n n)::(30, .int .i64 (k:Int))::FMs b LA ln lc n i) a):firstWp Tryz.prog vm39_code Q a W:=by
 obtain ⟨s,rfl,hs9⟩:=ha
 rw [r257]
 obtain ⟨e31,e21,e22,e28,e30,e2,e3,e4,e7,e8,e9,e10,e11,e18,e19,e20,_⟩:=hs9
 rw [e31,e21,e22,e28,e30,e2,e3,e4,e7,e8,e9,e10,e11,e18,e19,e20]
 have hk4:k<4:=by omega
 have hk0:(0:Int)≤(k:Int):=by omega
 have hk1:(k:Int)<4:=by omega
 have hkn:(k:Int)<(n:Int):=by omega
 have hgF:=(X.ft gF (by simp)).1
 have hmT:∀ x ∈ [b.gst],x ∈ [gF]++b.S:=by intro x hx;simp at hx;simp [VB.S,hx]
 have x0:=X.codec k hk4
 have hcb:=hcs k hk4
 have y0:W.cell? ⟨g8,0,none⟩=some (.int .i64 kd):=B8.at 0 _ rfl
 have kC:∀ V:World,Calls Tryz.prog 6 #[.int .u8 (cs k)] V fun e w'=>e = .returned (.int .u8 (cod3 (cs k)))∧Below V.heap.size V w':=fun V=>(zcz (cs k) hcb.1 hcb.2 V).mono (by rintro e w' ⟨rfl,rfl⟩;exact ⟨rfl,Below.refl _ _⟩)
 have hsp:=zhh (cs k)
 generalize cod3 (cs k)=c at kC hsp hen
 generalize cs k=xc at x0 kC
 have KC:=Z9 kC
 clear e2 e3 e4 e7 e8 e9 e10 e11 e18 e19 e20 e21 e22 e28 e30 e31 hcb hcs kC
 refine zas ?_
 intro _ _ _ _
 by_cases h1:kd=1
 rotate_left
 · have hne:¬kd=1:=h1
   clear h1
   go_upto_region 43 with fail
   clear x0 y0
   go_wp2_with (first|(refine zae rfl 53 (.tmp 31) rfl g8 0 rfl 53 [.int .i64 kd, .slice TA tz.length tc] B8 2 _ Tryz.underlying53 zay (show 0+2≤2 by decide) #[.int .i64 kd, .slice TA tz.length tc] rfl rfl ?_)|(refine zaf rfl 53 (.tmp 255) (.tmp 254) rfl b.gst (k*2) rfl 54 (tick4 tt) X.bt [.int .i64 kd, .slice TA tz.length tc] rfl zay (show k*2+2≤8 by omega) rfl _ (zcb tt k hk4 ⟨kd,TA,tc,tz⟩) ?_;intro WF BF OF)|fail)
   have hc:=Chg.of_only OF (S:=[b.gst]) (by simp)
   exact h _ _ (X.setT k ⟨kd,TA,tc,tz⟩ OF BF hT) (V.chg hc hmT (by simp;omega)) (M.chg hc hmT) (Fr.mk rfl ⟨rfl,rfl,rfl,rfl,rfl,rfl,rfl,rfl,rfl,rfl,rfl,rfl,rfl,rfl,rfl,trivial⟩)
 obtain ⟨hen1,hen2⟩:=hen h1
 rw [h1] at y0
 replace h1:=Z9 h1
 replace hen2:=Z9 hen2
 replace hen1:=Z9 hen1
 clear hen
 by_cases h96:c=96
 · subst h96
   clear hen1 hen2 h1
   go_upto_region 39 with fail
   go_wp2_with fail
   refine (KC.out _).mono ?_
   rintro e w2 ⟨rfl,hb⟩
   replace X:=X.later hb
   replace V:=V.later hb
   replace M:=M.later hb
   replace B8:=B8.later hb
   replace hT:=hT.chg (T:=[]) (Chg.of_below hb) (by simp)
   clear hb x0 y0
   go_upto_region 43 with fail
   go_wp2_with (first|(refine zae rfl 53 (.tmp 31) rfl g8 0 rfl 53 [.int .i64 kd, .slice TA tz.length tc] B8 2 _ Tryz.underlying53 zay (show 0+2≤2 by decide) #[.int .i64 kd, .slice TA tz.length tc] rfl rfl ?_)|(refine zaf rfl 53 (.tmp 255) (.tmp 254) rfl b.gst (k*2) rfl 54 (tick4 tt) X.bt [.int .i64 kd, .slice TA tz.length tc] rfl zay (show k*2+2≤8 by omega) rfl _ (zcb tt k hk4 ⟨kd,TA,tc,tz⟩) ?_;intro WF BF OF)|fail)
   have hc:=Chg.of_only OF (S:=[b.gst]) (by simp)
   exact h _ _ (X.setT k ⟨kd,TA,tc,tz⟩ OF BF hT) (V.chg hc hmT (by simp;omega)) (M.chg hc hmT) (Fr.mk rfl ⟨rfl,rfl,rfl,rfl,rfl,rfl,rfl,rfl,rfl,rfl,rfl,rfl,rfl,rfl,rfl,trivial⟩)
 go_upto_region 39 with fail
 go_wp2_with fail
 refine (KC.out _).mono ?_
 rintro e w2 ⟨rfl,hb⟩
 replace X:=X.later hb
 replace V:=V.later hb
 replace M:=M.later hb
 replace B8:=B8.later hb
 replace hT:=hT.chg (T:=[]) (Chg.of_below hb) (by simp)
 replace x0:=zag hb x0
 clear hb y0
 replace hen1:=hen1.out
 replace hen2:=hen2.out
 have hml:=M.len
 rw [List.length_map,hfr] at hml
 obtain ⟨mx,hmx⟩:∃ x,hs[k]? = some x:=⟨_,List.getElem?_eq_getElem (by omega)⟩
 have xm:=M.row k mx hmx
 have hmz:=M.zs hmx
 have hml2:mx.zs.length=160:=by rw [hmz,Sb.mixL_len]
 rw [hml2] at xm
 have HZ:=(M.pay mx (List.mem_of_getElem? hmx)).1
 rw [hmz] at HZ
 have hzb:=Sb.mixL_bd (fr.map TF.zs) k
 have hzl:=Sb.mixL_len (fr.map TF.zs) k
 generalize Sb.mixL (fr.map TF.zs) k=mz at HZ hzb hzl hen1
 generalize mx.A=mA at xm HZ
 generalize mx.c=mc at xm
 clear hmz hml2 hmx hml
 have h00:Dlt.valid 0 0=true:=by decide
 have hee:(Sb.enc c (0,0) mz).1=(Sb.enc c (cv,ci) mz).1:=by
  rcases zam.1 hsp with e|e|e
  · subst e;rfl
  · subst e;rfl
  · exact absurd e h96
 have hei:=Sb.enc_in c (0,0) mz h00 hzl
 have kE:=fun (V:World) (hV:Below w2.heap.size w2 V)=>zdx c 0 0 hsp mA mz 160 mc hzl V h00 (HZ.later hV) hzb (by omega) (by omega)
 rw [← hee] at hen1
 have hMl:=M.lt
 generalize (Sb.enc c (0,0) mz).1=bs at kE hei hen1
 generalize (Sb.enc c (0,0) mz).2=es at kE hei
 clear hee
 replace hen1:=Z9 hen1
 replace hen2:=Z9 hen2
 replace hzl:=Z9 hzl
 replace hei:=Z9 hei
 go_upto_region 40 with fail
 refine zuy b.gC gM k n hk0 hk1 hkn xc c mA mc bs es w2 x0 xm (fun V=>KC.out V) kE ?_ ?_
 · intro ch a d u w h;exact hQp _ _ _ _ _ h
 clear kE xm
 intro wx g3 A' c' u230 u231 u232 u233 u234 u235 u236 u237 u238 u239 u240 u241 u242 hcc HI HB
 replace hen1:=hen1.out
 replace hen2:=hen2.out
 replace hei:=hei.out
 replace X:=X.later HB.out
 replace V:=V.later HB.out
 replace M:=M.later HB.out
 replace B8:=B8.later HB.out
 replace hT:=hT.chg (T:=[]) (Chg.of_below HB.out) (by simp)
 replace x0:=zag HB.out x0
 have kD:=fun (V:World) hV=>zcg c hsp A' bs bs.length c' rfl V hV hei.1 (by have:=hei.2.1;omega) hcc
 unfold Dec32R at kD
 rw [← hen1,hen2] at kD
 have kQ:=fun (V:World) (B:Option Addr) (d:Nat) hA hB=>zck TA B tz 160 tc d hen2 V hA hB (by omega)
 have y1:wx.cell? ⟨g8,1,none⟩=some (.slice TA 160 tc):=by rw [← hen2];exact B8.at 1 _ rfl
 replace HI:=Z9 HI.out.at_
 have HZ2:=Z9 hT.1
 have KD:=Z9 kD
 have KQ:=Z9 kQ
 have HEI:=Z9 hei
 obtain ⟨gC,hgC⟩:∃ g,g=b.gC:=⟨_,rfl⟩
 rw [← hgC] at x0 ⊢
 have HG:=Z9 hgC
 have HE2:=Z9 hen2
 clear hgC hen1 hen2 hei kD kQ HZ hzb hzl HB
 go_upto_region 41 with fail
 go_region_held3 (fun w'=>Below wx.heap.size wx w'∧w'.cell? ⟨gC,k,none⟩=some (.int .u8 xc)∧w'.cell? ⟨g8,1,none⟩=some (.slice TA 160 tc))
  (first|assumption|((try go_split_ands);refine zbv ?_ (fun hbX=>⟨zag hbX x0,zag hbX y1⟩);(with_reducible repeat first|assumption|exact Below.refl _ _|exact zak (by assumption) (by assumption)|refine Below.drew ?_|refine zah ?_ _)))
  (first
   | (go_at_call 6;refine (KC.out _).mono ?_;rintro e w7 ⟨rfl,qb⟩;have hbw:Below wx.heap.size wx w7:=zak qb (by (try go_split_ands);first|assumption|exact Below.drew (Below.refl _ _)))
   | (go_at_call 14;refine (KD.out _ (HI.out.later (by (try go_split_ands);first|assumption|exact Below.drew (Below.refl _ _)))).mono ?_;rintro e w8 ⟨B,cB,rfl,hIB,hbel2⟩;have hbw2:Below wx.heap.size wx w8:=zak hbel2 (by (try go_split_ands);first|assumption|exact Below.drew (Below.refl _ _)))
   | (go_at_call 11;refine (KQ.out _ _ _ (HZ2.out.later (by (try go_split_ands);first|assumption|exact Below.drew (Below.refl _ _))) hIB.1).mono ?_;rintro e w9 ⟨rfl,hbel3⟩;have hbw3:Below wx.heap.size wx w9:=zak hbel3 (by (try go_split_ands);first|assumption|exact Below.drew (Below.refl _ _))))
 all_goals
  have hg:=HG.out
  subst hg
  replace X:=X.later hbw3
  replace V:=V.later hbw3
  replace M:=M.later hbw3
  replace B8:=B8.later hbw3
  replace hT:=hT.chg (T:=[]) (Chg.of_below hbw3) (by simp)
  clear x0 y1 hbw qb hbw2 hbel2 hbel3 hIB
  go_upto_region 43 with fail
  go_wp2_with (first|(refine zae rfl 53 (.tmp 31) rfl g8 0 rfl 53 [.int .i64 kd, .slice TA tz.length tc] B8 2 _ Tryz.underlying53 zay (show 0+2≤2 by decide) #[.int .i64 kd, .slice TA tz.length tc] rfl rfl ?_)|(refine zaf rfl 53 (.tmp 255) (.tmp 254) rfl b.gst (k*2) rfl 54 (tick4 tt) X.bt [.int .i64 kd, .slice TA tz.length tc] rfl zay (show k*2+2≤8 by omega) rfl _ (zcb tt k hk4 ⟨kd,TA,tc,tz⟩) ?_;intro WF BF OF)|fail)
  have hc:=Chg.of_only OF (S:=[b.gst]) (by simp)
  exact h _ _ (X.setT k ⟨kd,TA,tc,tz⟩ OF BF hT) (V.chg hc hmT (by simp;omega)) (M.chg hc hmT) (Fr.mk rfl ⟨rfl,rfl,rfl,rfl,rfl,rfl,rfl,rfl,rfl,rfl,rfl,rfl,rfl,rfl,rfl,trivial⟩)
theorem zvj {w W:World} {b:VB} {cs ls:Nat→Int} {fm fi fo fe:Nat→PQ} {ts tt:Nat→TQ} {gF gM n i:Nat} {LA:Option Addr} {ln lc:Nat} {fr hs:List TF} {Q:Exit→Act→World→Prop} (X:VM w W b [gF] cs ls fm fi fo fe ts tt) (V:FV W b gF fr) (M:MV W b gF gM (fr.map TF.zs) hs) (hn:n≤4) (hi:i<30) (hfr:fr.length=n) (hcs:∀ j,j<4→0≤cs j∧cs j≤255) (hP:∀ j,j<n→PairI (cod3 (cs j)) (fo j) (fe j) (tt j) i)
 (hQp:∀ (ch:_) (a:Act) (d:Tmp) (u:Value) (w:World),Q (.panic ch) (a.put (some d) u) w→Q (.panic ch) a w)
 (h:∀ (W:World) (a:Act) (fo fe:Nat→PQ) (tt:Nat→TQ),VM w W b [gF] cs ls fm fi fo fe ts tt→(∀ j,j<n→PairI (cod3 (cs j)) (fo j) (fe j) (tt j) (i+1))→Fr 257 ((21, .int .i64 (20*(i:Int)))::(22, .slice (some ⟨gF,0,none⟩) n n)::(28, .slice (some ⟨gM,0,none⟩) n n)::FMs b LA ln lc n i) a→Q .normal a W) (a:Act) (ha:Fr 257 ((21, .int .i64 (20*(i:Int)))::(22, .slice (some ⟨gF,0,none⟩) n n)::(28, .slice (some ⟨gM,0,none⟩) n n)::FMs b LA ln lc n i) a):firstWp Tryz.prog vm33_code Q a W:=by
 obtain ⟨s,rfl,hs9⟩:=ha
 rw [r257]
 obtain ⟨e21,e22,e28,e2,e3,e4,e7,e8,e9,e10,e11,e18,e19,e20,_⟩:=hs9
 rw [e21,e22,e28,e2,e3,e4,e7,e8,e9,e10,e11,e18,e19,e20]
 refine zaq ?_
 intro _ _
 go_upto_region 33 with fail
 go_wp2_with fail
 refine wp_loop_rounds (n+1) (zbn (fun m a wr => ∃ (k:Nat) (fo fe:Nat→PQ) (tt:Nat→TQ),m+k=n∧VM w wr b [gF] cs ls fm fi fo fe ts tt∧FV wr b gF fr∧MV wr b gF gM (fr.map TF.zs) hs∧(∀ j,j<n→PairI (cod3 (cs j)) (fo j) (fe j) (tt j) (if j<k then i+1 else i))∧Fr 257 ((21, .int .i64 (20*(i:Int)))::(22, .slice (some ⟨gF,0,none⟩) n n)::(28, .slice (some ⟨gM,0,none⟩) n n)::(30, .int .i64 (k:Int))::FMs b LA ln lc n i) a) (fun m a wr hJ => ?_) n _ _ ⟨0,fo,fe,tt,rfl,X,V,M,fun j hj=>by rw [if_neg (by omega)];exact hP j hj,Fr.mk rfl ⟨rfl,rfl,rfl,rfl,rfl,rfl,rfl,rfl,rfl,rfl,rfl,rfl,rfl,rfl,rfl,trivial⟩⟩)
 clear X V M hP
 obtain ⟨k,fo,fe,tt,hm,X,V,M,hP,ha⟩:=hJ
 obtain ⟨s,rfl,hs9⟩:=ha
 rw [r257]
 obtain ⟨e21,e22,e28,e30,e2,e3,e4,e7,e8,e9,e10,e11,e18,e19,e20,_⟩:=hs9
 rw [e21,e22,e28,e30,e2,e3,e4,e7,e8,e9,e10,e11,e18,e19,e20]
 have hk0:(0:Int)≤(k:Int):=by omega
 by_cases hk:k<n
 rotate_left
 · have hk2:¬(k:Int)<(n:Int):=by omega
   go_wp2_with fail
   exact h _ _ fo fe tt X (fun j hj=>by have:=hP j hj;rwa [if_pos (by omega)] at this) (Fr.mk rfl ⟨rfl,rfl,rfl,rfl,rfl,rfl,rfl,rfl,rfl,rfl,rfl,rfl,rfl,rfl,trivial⟩)
 have hk2:(k:Int)<(n:Int):=by omega
 have Pk:=hP k hk
 rw [if_neg (by omega)] at Pk
 obtain ⟨tk0,⟨⟨sq0,hh0,hsp0,_⟩,_,_⟩,_⟩:=Pk.ex
 go_upto_region 36 with fail
 refine zan (by assumption) ?_
 refine zvg X V M hk hn hi hfr Pk (by intro ch a d u w h;exact hQp ch a d u w h) (fun W a g8 p' u' A1 c1 A2 n2 c2 l2 kd TA tc tz SA sc ls' X V M B8 h8 P' hT kS hen ha => ?_) _ (Fr.mk rfl ⟨rfl,rfl,rfl,rfl,rfl,rfl,rfl,rfl,rfl,rfl,rfl,rfl,rfl,rfl,rfl,trivial⟩)
 refine zvh X V M hk hn hi hfr B8 hT kS (fun W a X V M B8 hT ha => ?_) _ ha
 have hkd:kd=0∨kd=1∨kd=2:=by
  obtain ⟨_,_,h9⟩:=P'.ex
  cases h9<;>simp
 refine zvi X V M hk hn hi hfr B8 h8 hT hcs (fo k).p.cv (fo k).p.ci hsp0.cod hkd hen (by intro ch a d u w h;exact hQp ch a d u w h) (fun W a X V M ha => ?_) _ ha
 have hP2:∀ j,j<n→PairI (cod3 (cs j)) (upd fo k ⟨p',A1,0,c1,[]⟩ j) (upd fe k ⟨u',A2,n2,c2,l2⟩ j) (upd tt k ⟨kd,TA,tc,tz⟩ j) (if j<k+1 then i+1 else i):=fun j hj=>by
  by_cases e:j=k
  · rw [e,zcn,zcn,zcn,if_pos (by omega)];exact P'
  · rw [zco _ _ _ _ e,zco _ _ _ _ e,zco _ _ _ _ e]
    have h9:=hP j hj
    by_cases e2:j<k
    · rw [if_pos e2] at h9;rw [if_pos (by omega)];exact h9
    · rw [if_neg e2] at h9;rw [if_neg (by omega)];exact h9
 clear hP Pk P' kS hen hsp0 B8 hT
 obtain ⟨s,rfl,hs9⟩:=ha
 rw [r257]
 obtain ⟨e21,e22,e28,e30,e2,e3,e4,e7,e8,e9,e10,e11,e18,e19,e20,_⟩:=hs9
 rw [e21,e22,e28,e30,e2,e3,e4,e7,e8,e9,e10,e11,e18,e19,e20]
 go_wp2_with fail
 exact ⟨m-1,by omega,k+1,_,_,_,by omega,X,V,M,hP2,Fr.mk rfl ⟨rfl,rfl,rfl,rfl,rfl,rfl,rfl,rfl,rfl,rfl,rfl,rfl,rfl,rfl,rfl,trivial⟩⟩
noncomputable def vm13_code:Code:=((Tryz.f3.body.bind (fromReg 13)).getD .skip)
noncomputable def vm44_code:Code:=((Tryz.f3.body.bind (fromReg 44)).getD .skip)
theorem zrx (n:Nat):(List.replicate n (⟨none,0,[]⟩:TF)).flatMap TF.row=List.replicate n (.slice none 0 0):=by
 induction n with
 | zero=>rfl
 | succ n ih=>rw [List.replicate_succ,List.flatMap_cons,ih];rfl
theorem FV.new (W:World) (b:VB) (n:Nat):FV (W.alloc (.cells (madeCells #[.slice none 0 0] n) 51)) b W.heap.size (List.replicate n ⟨none,0,[]⟩):=by
 refine ⟨?_,fun a ha => ?_,fun a ha => ?_,fun a ha => ?_⟩
 · rw [zrx,← zer];exact Blk.new W _ _
 all_goals rw [List.eq_of_mem_replicate ha]
 · exact IntsAv.nil
 · exact Nat.zero_le _
 · intro z hz;cases hz
def FM0 (b:VB) (LA:Option Addr) (ln lc n:Nat):List (Nat×Value):=[(2, .slice LA ln lc),(3, .pointer (some ⟨b.gC,0,none⟩)),(4, .pointer (some ⟨b.gL,0,none⟩)),(7, .int .i64 (n:Int)),(8, .pointer (some ⟨b.gm,0,none⟩)),(9, .pointer (some ⟨b.gi,0,none⟩)),(10, .pointer (some ⟨b.go,0,none⟩)),(11, .pointer (some ⟨b.ge,0,none⟩)),(18, .pointer (some ⟨b.gsd,0,none⟩)),(19, .pointer (some ⟨b.gst,0,none⟩))]
theorem zvk {w W:World} {b:VB} {cs ls:Nat→Int} {fm fi fo fe:Nat→PQ} {ts tt:Nat→TQ} {n:Nat} {LA:Option Addr} {ln lc:Nat} {Q:Exit→Act→World→Prop} (X:VM w W b [] cs ls fm fi fo fe ts tt) (hn1:0<n) (hn:n≤4) (L:List Bool) (hL:L.length=ln) (hR:RowsAt w w.heap.size 1 (fun x:Bool => [Value.bool x]) LA L) (hl0:∀ j,j<4→0≤ls j∧ls j≤65535) (hcs:∀ j,j<4→0≤cs j∧cs j≤255) (hPI:(∀ j,j<n→PairI (cod3 (cs j)) (fm j) (fi j) (ts j) 0)) (hPE:(∀ j,j<n→PairI (cod3 (cs j)) (fo j) (fe j) (tt j) 0))
 (hQp:∀ (ch:_) (a:Act) (d:Tmp) (u:Value) (w:World),Q (.panic ch) (a.put (some d) u) w→Q (.panic ch) a w)
 (h:∀ (W:World) (a:Act),Bel w W→Fr 257 [] a→firstWp Tryz.prog vm44_code Q a W) (a:Act) (ha:Fr 257 (FM0 b LA ln lc n) a):firstWp Tryz.prog vm13_code Q a W:=by
 obtain ⟨s,rfl,hs9⟩:=ha
 rw [r257]
 obtain ⟨e2,e3,e4,e7,e8,e9,e10,e11,e18,e19,_⟩:=hs9
 rw [e2,e3,e4,e7,e8,e9,e10,e11,e18,e19]
 refine zas ?_
 intro _ _ _ _
 go_upto_region 13 with fail
 go_wp2_with fail
 refine wp_loop_rounds 31 (zbn (fun m a wr => ∃ (i:Nat) (fm fi fo fe:Nat→PQ) (ts tt:Nat→TQ),m+i=30∧VM w wr b [] cs ls fm fi fo fe ts tt∧(∀ j,j<n→PairI (cod3 (cs j)) (fm j) (fi j) (ts j) i)∧(∀ j,j<n→PairI (cod3 (cs j)) (fo j) (fe j) (tt j) i)∧Fr 257 (FMs b LA ln lc n i) a) (fun m a wr hJ => ?_) 30 _ _ ⟨0,fm,fi,fo,fe,ts,tt,rfl,X,hPI,hPE,Fr.mk rfl ⟨rfl,rfl,rfl,rfl,rfl,rfl,rfl,rfl,rfl,rfl,rfl,trivial⟩⟩)
 clear X hPI hPE
 obtain ⟨i,fm,fi,fo,fe,ts,tt,hm,X,hPI,hPE,ha⟩:=hJ
 obtain ⟨s,rfl,hs9⟩:=ha
 rw [r257]
 obtain ⟨e2,e3,e4,e7,e8,e9,e10,e11,e18,e19,e20,_⟩:=hs9
 rw [e2,e3,e4,e7,e8,e9,e10,e11,e18,e19,e20]
 have hi0:(0:Int)≤(i:Int):=by omega
 by_cases hi:i<30
 rotate_left
 · have hi2:¬(i:Int)<30:=by omega
   go_upto_region 44 with fail
   refine zan (by assumption) ?_
   exact h _ _ X.bel (Fr.mk rfl trivial)
 have hi2:(i:Int)<30:=by omega
 have hmk2:∀ V:World,(Instr.makeSlice 55 (.int .i64 (n:Int)) (.int .i64 (n:Int))).run Tryz.prog V = .ok (.slice (some ⟨V.heap.size,0,none⟩) n n) (V.alloc (.cells (madeCells #[.slice none 0 0] n) 51)):=fun V=>run_make_row' (P:=Tryz.prog) 55 51 (.slice none 0 0) 24 Tryz.underlying55 zir rfl .i64 .i64 n (by omega) (by omega) V
 go_upto_region 18 with fail
 have X2:=X.add (.cells (madeCells #[.slice none 0 0] n) 51)
 have V2:=FV.new wr b n
 clear X hmk2
 refine zbh (by assumption) (by assumption) ?_
 generalize wr.alloc (.cells (madeCells #[.slice none 0 0] n) 51)=W at X2 V2 ⊢
 generalize wr.heap.size=gF at X2 V2 ⊢
 refine zve X2 V2 hn hi (by simp) L hL hR hl0 hPI (by intro ch a d u w h;exact hQp ch a d u w h) (fun W a fr fm fi ts X V hfr hPI2 ha => ?_) _ (Fr.mk rfl ⟨rfl,rfl,rfl,rfl,rfl,rfl,rfl,rfl,rfl,rfl,rfl,rfl,rfl,trivial⟩)
 refine zvf X V hn1 hn hfr (fun W a gM hs X V M ha => ?_) _ ha
 refine zvj X V M hn hi hfr hcs hPE (by intro ch a d u w h;exact hQp ch a d u w h) (fun W a fo fe tt X hPE2 ha => ?_) _ ha
 clear hPI hPE V M X2 V2
 obtain ⟨s,rfl,hs9⟩:=ha
 rw [r257]
 obtain ⟨e21,e22,e28,e2,e3,e4,e7,e8,e9,e10,e11,e18,e19,e20,_⟩:=hs9
 rw [e21,e22,e28,e2,e3,e4,e7,e8,e9,e10,e11,e18,e19,e20]
 go_wp2_with fail
 exact ⟨m-1,by omega,i+1,_,_,_,_,_,_,by omega,X.sub (by simp),hPI2,hPE2,Fr.mk rfl ⟨rfl,rfl,rfl,rfl,rfl,rfl,rfl,rfl,rfl,rfl,rfl,trivial⟩⟩
def NewP (k src l m:Int) (w:World) (e:Ending) (w':World):Prop:=e = .returned (.tuple #[.agg (PA (Sb.new k src l m).1 none 0 0), .int .u8 (Sb.new k src l m).2])∧Below w.heap.size w w'
theorem zje (k src l m:Int) (h0:0≤k) (h1:k≤255) (w:World):Calls Tryz.prog 5 #[.int .u8 k, .int .u32 src, .agg #[.int .i64 l, .int .i64 m]] w (NewP k src l m w):=by
 have BC:=Z9 ((Blk.new w 34 #[.int .i64 l, .int .i64 m]).push (.cells (PA Sb.Pt.zero none 0 0) 45))
 have B1:=Z9 (Blk.new1 w (.cells #[.int .i64 l, .int .i64 m] 34) 45 (PA Sb.Pt.zero none 0 0))
 have U0:=Z9 (((Bel.refl w).push (.cells #[.int .i64 l, .int .i64 m] 34)).push (.cells (PA Sb.Pt.zero none 0 0) 45))
 have k1:=Z9 fun W=>zdi k W h0 h1
 have k2:=Z9 fun W=>ztq l m W
 unfold NewR at k2
 obtain ⟨v,hv⟩:∃ v,v=speechB k:=⟨_,rfl⟩
 rw [← hv] at k1
 have HV:=Z9 hv
 clear hv
 go_enter Tryz.func5,Tryz.ntmps5
 go_upto_region 1 with fail
 change Code.wp _ _ _ _ ((w.alloc (Obj.cells #[.int .i64 l, .int .i64 m] 34)).alloc (Obj.cells (PA Sb.Pt.zero none 0 0) 45))
 obtain ⟨W,hW⟩:∃ W,W=(w.alloc (Obj.cells #[.int .i64 l, .int .i64 m] 34)).alloc (Obj.cells (PA Sb.Pt.zero none 0 0) 45):=⟨_,rfl⟩
 rw [← hW] at BC B1 U0 ⊢
 clear hW
 go_wp2_with fail
 refine (k1.out _).mono ?_
 rintro e w1 ⟨rfl,hb1⟩
 replace U0:=Z9 (U0.out.later hb1)
 replace BC:=Z9 (BC.out.later hb1)
 replace B1:=Z9 (B1.out.later hb1)
 have hlt:=B1.out.lt
 clear hb1
 cases v
 · have HN:Hid (Sb.new k src l m=(Sb.Pt.zero,15)):=Z9 (by unfold Sb.new;rw [← HV.out,if_pos rfl])
   go_wp2_with (first|(refine zaf rfl 45 (.tmp 6) (.tmp 13) rfl (w.heap.size+1) 0 rfl 45 (PL Sb.Pt.zero none 0 0) B1.out (PL Sb.Pt.zero none 0 0) rfl zai (show 0+48≤48 by decide) rfl (PL Sb.Pt.zero none 0 0) rfl ?_;intro WH BH OH)|fail)
   refine bodyPost_ret (v := .tuple #[.agg (PA (Sb.new k src l m).1 none 0 0), .int .u8 (Sb.new k src l m).2]) (zei Tryz.results5 rfl (by rw [HN.out];exact PB.load BH) (by rw [HN.out];rfl)) rfl ⟨rfl,OH.bel U0.out (by omega)⟩
 have c0:=BC.out.at 0 _ rfl
 have c1:=BC.out.at 1 _ rfl
 go_wp2_with fail
 refine (k2.out _).mono ?_
 rintro e w2 ⟨rfl,hb2⟩
 replace U0:=Z9 (U0.out.later hb2)
 replace B1:=Z9 (B1.out.later hb2)
 have HN:Hid (Sb.new k src l m=(if (Jb.new l m).2=0 then { Sb.Pt.zero with codec:=k,src:=src,mrk:=true,jt:=(Jb.new l m).1,seed:=src } else Sb.Pt.zero,(Jb.new l m).2)):=Z9 (by
  unfold Sb.new Jb.new
  rw [← HV.out,if_neg (by decide)]
  by_cases hc:Jb.cfg l m
  · rw [if_pos hc,if_pos hc];rfl
  · rw [if_neg hc,if_neg hc];rfl)
 have hus:=U0.out.size
 clear hb2 c0 c1
 unfold JV
 generalize Jb.new l m=R at *
 obtain ⟨R1,R2⟩:=R
 simp only at HN
 have BJ:=Z9 (Blk.new w2 37 (JW R1 none 0 0).toArray)
 obtain ⟨g1,hg1⟩:∃ g,g=w2.heap.size:=⟨_,rfl⟩
 obtain ⟨W3,hW3⟩:∃ W,W=w2.alloc (.cells (JW R1 none 0 0).toArray 37):=⟨_,rfl⟩
 have BB:=Z9 (show Below w2.heap.size w2 W3 by rw [hW3];exact (Below.refl _ _).alloc (Nat.le_refl _) _)
 rw [← hg1,← hW3] at BJ
 go_upto_region 4 with fail
 rw [← hg1]
 change Code.wp _ _ _ _ (w2.alloc (Obj.cells (JW R1 none 0 0).toArray 37))
 rw [← hW3]
 replace U0:=Z9 (U0.out.later BB.out)
 replace B1:=Z9 (B1.out.later BB.out)
 clear hW3 hg1 BB
 by_cases hr:R2=0
 rotate_left
 · replace HN:=Z9 (HN.out.trans (by rw [if_neg hr]))
   go_wp2_with (first|(refine zaf rfl 45 (.tmp 6) (.tmp 21) rfl (w.heap.size+1) 0 rfl 45 (PL Sb.Pt.zero none 0 0) B1.out (PL Sb.Pt.zero none 0 0) rfl zai (show 0+48≤48 by decide) rfl (PL Sb.Pt.zero none 0 0) rfl ?_;intro WH BH OH)|fail)
   refine bodyPost_ret (v := .tuple #[.agg (PA (Sb.new k src l m).1 none 0 0), .int .u8 (Sb.new k src l m).2]) (zei Tryz.results5 rfl (by rw [HN.out];exact PB.load BH) (by rw [HN.out];rfl)) rfl ⟨rfl,OH.bel U0.out (by omega)⟩
 subst hr
 replace HN:=Z9 (HN.out.trans (by rw [if_pos rfl]))
 go_wp2_with (first|(refine zae rfl 37 (.tmp 8) rfl (g1) 0 rfl 37 (JW R1 none 0 0) BJ.out 14 _ Tryz.underlying37 zbi (show 0+14≤14 by decide) (#[.int .i64 R1.least, .int .i64 R1.most, .int .i64 R1.now, .bool R1.on, .int .i64 R1.zero, .int .i64 R1.first, .int .i64 R1.high, .int .i64 R1.done, .int .i64 R1.spread, .int .i64 R1.trans, .slice none 0 0, .int .i64 R1.late, .int .i64 R1.twice, .int .i64 R1.played]) (by rfl) rfl ?_)|(refine zaf rfl 45 (.tmp 6) (.tmp 27) rfl (w.heap.size+1) 0 rfl 45 (PL Sb.Pt.zero none 0 0) B1.out (PL { Sb.Pt.zero with codec:=k,src:=src,mrk:=true,jt:=R1,seed:=src } none 0 0) rfl zai (show 0+48≤48 by decide) rfl (PL { Sb.Pt.zero with codec:=k,src:=src,mrk:=true,jt:=R1,seed:=src } none 0 0) rfl ?_;intro WH BH OH)|fail)
 refine bodyPost_ret (v := .tuple #[.agg (PA (Sb.new k src l m).1 none 0 0), .int .u8 (Sb.new k src l m).2]) (zei Tryz.results5 rfl (by rw [HN.out];exact PB.load BH) (by rw [HN.out];rfl)) rfl ⟨rfl,OH.bel U0.out (by omega)⟩
end Go.Proofs.YtbcgnddpkiemoaaGreat
