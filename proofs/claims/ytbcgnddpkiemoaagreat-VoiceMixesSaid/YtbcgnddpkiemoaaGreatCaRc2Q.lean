/- The carrier of chapter 11 in the laws of layer 32: Receive. -/
import Derived.Test.YtbcgnddpkiemoaaGreatSs9Q
import Derived.Test.YtbcgnddpkiemoaaGreatJtPnQ
import Derived.Deep.LoopGhost
import Derived.Laws.BitsAllLaws
import Derived.Lib.AppendZeros
import Derived.Deep.CutRange
import Derived.Deep.DeepCutAuto
import Derived.Laws.Bits64b
import Derived.Laws.CopyOwn
import Derived.WalkMore
import Derived.Laws.Rows
import Derived.BigQuiet
import Derived.Deep.QuietTactic
import Derived.RegionCalls
import Derived.Deep.RegionWith
import Derived.Deep.RegionHeld3
import Derived.Test.YtbcgnddpkiemoaaGreatJtCopyQ
import Derived.Test.YtbcgnddpkiemoaaGreatSbDecsQ
import Derived.RegionTactic
import Derived.ChangeAlike
set_option linter.unusedVariables false
set_option linter.unusedSimpArgs false
set_option maxRecDepth 100000
set_option maxHeartbeats 12800000
namespace Go.Proofs.YtbcgnddpkiemoaaGreat
attribute [local go_sem ↓] zab zac
attribute [local go_sem] zaa zad
open Go.RowKit
theorem zul {w:World} {n:Nat} {A:Option Addr} {zs:List Int} (h:IntsAt w n .u8 A zs):RowsAt w n 1 u8Row A zs:=fun h0=>by
 obtain ⟨b,off,e,hb,hc⟩:=h h0
 refine ⟨b,off,e,hb,fun i a ha j v hv => ?_⟩
 obtain rfl:j=0:=by
  have h1:=(List.getElem?_eq_some_iff.1 hv).1
  have h2:(u8Row a).length=1:=rfl
  omega
 have hi:=(List.getElem?_eq_some_iff.1 ha).1
 have h3:=hc i hi
 rw [List.getD_eq_getElem?_getD,ha] at h3
 rw [Nat.mul_one,Nat.add_zero]
 rw [h3];exact hv
theorem zok:∀ zs:List Int,zs.flatMap u8Row=zs.map (Value.int .u8)
 | []=>rfl
 | z::zs=>by rw [List.flatMap_cons,zok zs];rfl
theorem zbx {P:Program} {ops:Array Oper} {o:Oper} {a:Act} {w:World} {K:Act→World→Prop} {Q:Exit→Act→World→Prop} {E:Prop} (d:Tmp) (hgd:o.guard=none) (hd:o.dst=some d) (s x:Operand) (t:TypeId)
 (ho:o.op = .call { callee := .builtin .append,args := #[s,x],argTypes := #[t,t] })
 (base:Nat) (e:TypeId) (size bytes:Nat) (z:Value) (ht:P.underlying t=some (.slice e)) (hinfo:(P.info? e).map (fun i=>(i.zero,i.size,i.bytes))=some (some z,size,bytes))
 (hzs:z.cells.size=size) (hsz:0<size) (A:Option Addr) (n c:Nat) (xs:List Value) (hs:a.eval s = .slice A n c) (qo:Owns w base e size A n c xs)
 (g0:Nat) (cs:List Value) (hl:cs.length=size) (h1:∀ u∈cs,u.oneCell'=true) (hx:a.eval x = .slice (some ⟨g0,0,none⟩) 1 1) (hb:Blk w g0 e cs.toArray)
 (h63:n+1≤maxLen) (hbytes:(n+1)*bytes≤140737488355328) (hbase:base≤w.heap.size)
 (h:∀ (A':Option Addr) (c':Nat) (w':World),Owns w' base e size A' (n+1) c' (xs++cs)→w.grownBy w' (ownB A)→(ownB A'=ownB A∨∀ g,ownB A'=some g→w.heap.size≤g)→K (a.put (some d) (.slice A' (n+1) c')) w') :
 if Region.wanted o (yielded ops a.tmps)=true then Oper.wp P o a w K Q else E:=by
 obtain ⟨i,hi,hz0,hz1,hz2⟩:=info_parts hinfo
 refine step_append_lies w hgd s x t ho base e i z size bytes ht hi hz0 hz1 hz2 hzs hsz _ n xs hs qo ⟨g0,0,none⟩ 1 1 cs hx (by omega) ?_ h1 (by omega) h63 hbytes hbase _ rfl ?_
 · intro j u hu
   exact World.news_of_block hb j u (by simpa using hu)
 · intro g cap w' hown' hg hat hlt
   rw [zbp] at hg hat
   rw [hd]
   refine h _ _ w' hown' hg ?_
   rcases hat with e|e
   · exact .inl e.symm
   · refine .inr fun g' hg' => ?_
     injection hg' with hg'
     rw [← hg',e]
     exact Nat.le_refl _
def CloneI (zs:List Int) (W:World) (e:Ending) (w':World):Prop:=∃ A' c',e = .returned (.slice A' zs.length c')∧zs.length≤c'∧IntsNew W.heap.size w' .u8 A' zs∧Below W.heap.size W w'
theorem zfz (A:Option Addr) (c:Nat) (zs:List Int) (W:World) (hI:IntsAt W W.heap.size .u8 A zs) (h0:0<zs.length) (hl:zs.length≤2000):Calls Tryz.prog 107 #[.slice A zs.length c] W (CloneI zs W):=by
 refine (zlk A c zs W (zul hI) (fun hA => ?_) hl).mono ?_
 · obtain ⟨b,off,e,_⟩:=hI h0
   rw [hA] at e;cases e
 · rintro e w' ⟨A',c',rfl,ho,_,hb⟩
   rw [zok] at ho
   exact ⟨A',c',rfl,ho.cap,IntsNew.of_own ho (Nat.le_refl _),hb⟩
theorem zcv {α : Type} {row : α → List Value} {size:Nat} (hrow:∀ a,(row a).length=size) (hsz:0<size) {w:World} {base n c:Nat} {e:TypeId} {A:Option Addr} {ps:List α} (h:Owns w base e size A n c (ps.flatMap row)) (hn:ps.length=n):RowsNew base w size row A ps:=by
 refine ⟨fun h0 => ?_,fun h0 b off e=>(h.block b (by rw [e];rfl)).1⟩
 obtain ⟨g,e,h1,h2⟩:=h.form (by omega)
 refine ⟨g,0,e,h2,fun i a ha j v hv => ?_⟩
 have h3:=World.ownsRow.cells h (g:=g) (by rw [e];rfl) (i*size+j) v ?_
 · rw [zkk] at h3
   rw [Nat.add_assoc];exact h3
 · exact zea (size:=size) hrow ps i a ha j v hv
theorem zkl {w:World} {base c:Nat} {A:Option Addr} {ps:List Pc} (h:Owns w base 255 10 A ps.length c (ps.flatMap Pc.row)):RowsNew base w 10 Pc.row A ps:=zcv (row:=Pc.row) (size:=10) (fun _=>rfl) (by decide) h rfl
structure RLoop (W5 wr:World) (A:Option Addr) (c:Nat) (ds:List Dg):Prop where
 own:Owns wr W5.heap.size 213 5 A ds.length c (ds.flatMap Dg.row)
 pay:∀ d∈ds,IntsAv wr (ownB A).toList .u8 d.A d.zs∧(0<d.zs.length→∀ b off,d.A=some ⟨b,off,none⟩→W5.heap.size≤b)∧d.zs.length≤d.c
 bel:Below W5.heap.size W5 wr
theorem RLoop.step {W5 wr X w7 w8 wn:World} {A An A8:Option Addr} {c cn c8:Nat} {ds:List Dg} {o:Obj} {no at_:Int} {zs:List Int} (h:RLoop W5 wr A c ds) (hX:Below wr.heap.size wr X) (h7:Below X.heap.size X w7) (h8:Below w7.heap.size w7 w8) (hI:IntsNew w7.heap.size w8 .u8 A8 zs) (hc:zs.length≤c8)
 (ho:Owns wn W5.heap.size 213 5 An (ds.length+1) cn (ds.flatMap Dg.row++Dg.row ⟨no,at_,A8,c8,zs⟩)) (hg:(w8.alloc o).grownBy wn (ownB A)) (hat:ownB An=ownB A∨∀ g,ownB An=some g→(w8.alloc o).heap.size≤g):RLoop W5 wn An cn (ds ++ [⟨no,at_,A8,c8,zs⟩]):=by
 have s1:=hX.size
 have s2:=h7.size
 have s3:=h8.size
 have b8:Below wr.heap.size wr w8:=(hX.trans (h7.mono s1)).trans (h8.mono (by omega))
 have bY:Below wr.heap.size wr (w8.alloc o):=b8.alloc b8.size o
 have hT:∀ x∈(ownB A).toList,x<wr.heap.size:=fun x hx=>by
  have e:ownB A=some x:=by simpa using hx
  exact (h.own.block x e).2
 have cY:Chg (ownB A).toList (w8.alloc o) wn:=Chg.of_grown hg (fun k e => .inl (by rw [e];simp))
 have key:∀ {B:Option Addr} {l:List Int}, IntsAv (w8.alloc o) (ownB A).toList .u8 B l→IntsAv wn (ownB An).toList .u8 B l:=fun {B l} hi=>by
  have h1:=hi.re (T:=(ownB A).toList++(ownB An).toList) (fun x hx=>by
   rcases List.mem_append.1 hx with hx|hx
   · exact .inl hx
   · rcases hat with e|e
     · rw [e] at hx;exact .inl hx
     · exact .inr (e x (by simpa using hx)))
  exact (h1.chg cY (fun x hx=>List.mem_append_left _ hx)).sub (fun x hx=>List.mem_append_right _ hx)
 refine ⟨by simpa using ho,fun d hd => ?_,?_⟩
 · rcases List.mem_append.1 hd with hd|hd
   · obtain ⟨p1,p2,p3⟩:=h.pay d hd
     exact ⟨key (p1.chg (T:=[]) (Chg.of_below bY) (by simp)),p2,p3⟩
   · simp at hd
     subst hd
     refine ⟨key ?_,fun h0 b off e => ?_,hc⟩
     · have h1:IntsAv w8 (ownB A).toList .u8 A8 zs:=IntsAv.of_new hI (fun x hx=>by have:=hT x hx;omega)
       exact h1.chg (T:=[]) (Chg.of_below ((Below.refl _ _).alloc (Nat.le_refl _) _)) (by simp)
     · have:=hI.2 h0 b off e
       have:=h.bel.size
       omega
 · have hb:Below W5.heap.size W5 (w8.alloc o):=h.bel.trans (bY.mono h.bel.size)
   exact hb.grown hg hb.size (fun g e=>(h.own.block g e).1)
theorem zum (gc base:Nat) (k:Ca) (now:Int) (W:World) (hB:Blk W gc 253 k.row.toArray) (hR:RowsAv W [gc] 10 Pc.row k.pA k.ps) (ok:∀ p∈k.ps,p.ok) (hl:k.ps.length≤1000) (hI:∀ p∈k.ps,IntsAv W [gc] .u8 p.A p.zs∧0<p.zs.length∧p.zs.length≤2000) (h0:k.now≤now) (h1:now≤1000000) (hd:0<(dueP now k.ps).length) (kS:SortK (dueP now k.ps) W.heap.size):Calls Tryz.prog 77 #[.pointer (some ⟨gc,0,none⟩), .int .i64 now] W (RcvR gc k now W):=by
 have c0:W.cell? ⟨gc,0,none⟩=some (.bool true):=hB.at 0 _ rfl
 have c2:W.cell? ⟨gc,2,none⟩=some (.slice k.pA k.ps.length k.pc):=hB.at 2 _ rfl
 have c5:W.cell? ⟨gc,5,none⟩=some (.int .i64 k.now):=hB.at 5 _ rfl
 have hg:=hB.lt
 have kz:=Z9 fun (V:World) h=>zdg gc V h
 have hlt1:¬now<k.now:=by omega
 have hlt2:¬1099511627776<now:=by omega
 have hlt3:decide (now<k.now)=false:=decide_eq_false hlt1
 have hlt4:decide (1099511627776<now)=false:=decide_eq_false hlt2
 obtain ⟨W1,hW1⟩:∃ V,V=W.alloc (.cells #[.int .i64 now] 3):=⟨_,rfl⟩
 obtain ⟨g3,hg3⟩:∃ g,g=W.heap.size:=⟨_,rfl⟩
 have U1:Below W.heap.size W W1:=by rw [hW1];exact (Below.refl _ _).alloc (Nat.le_refl _) _
 have b3:Blk W1 g3 3 #[.int .i64 now]:=by rw [hW1,hg3];exact Blk.new W _ _
 have y3:W1.cell? ⟨g3,0,none⟩=some (.int .i64 now):=b3.at 0 _ rfl
 replace c0:=(U1.cell (p:=⟨gc,0,none⟩) hg).trans c0
 replace c2:=(U1.cell (p:=⟨gc,2,none⟩) hg).trans c2
 replace c5:=(U1.cell (p:=⟨gc,5,none⟩) hg).trans c5
 have hg31:g3<W1.heap.size:=b3.lt
 have kd:=Z9 fun (V:World) h1 h2 h3=>zua k.pA k.pc g3 now k.ps V h1 ok hl h2 h3
 have hR1:RowsAt W1 W1.heap.size 10 Pc.row k.pA k.ps:=(hR.1.keep (fun _ hp=>U1.cell hp)).more U1.size
 have HR1:=Z9 hR1
 clear hR1
 have HU1:=Z9 U1
 have HB3:=Z9 b3
 have HB:=Z9 hB
 have HR:=Z9 hR
 have HI:=Z9 hI
 have KS:=Z9 kS
 clear U1 b3 hB hR hI kS
 go_enter Tryz.func77,Tryz.ntmps77
 go_upto_region 1 with fail
 rw [← hW1,← hg3]
 have HW1:=Z9 hW1
 have HG3:=Z9 hg3
 clear hW1 hg3
 go_wp2_with fail
 refine (kz.out _ c0).mono ?_
 rintro e w0 ⟨rfl,rfl⟩
 go_upto_region 3 with fail
 go_region
 go_wp2_with fail
 refine (kd.out (World.drew w0) HR1.out y3 hg31).mono ?_
 rintro e w2 ⟨A1,ca,A2,cb,n1,n2,rfl,hn1,hn2,D⟩
 subst hn1 hn2
 have U2:Below W.heap.size W w2:=HU1.out.trans (show Below W.heap.size w0 w2 from ⟨D.bel.os,D.bel.tape,D.bel.output,D.bel.size,fun k hk=>D.bel.block k (Nat.lt_of_lt_of_le hk HU1.out.size)⟩)
 have hR2:=zkl D.own1
 have HD:=Z9 D
 have hn10:0<(dueP now k.ps).length:=hd
 obtain ⟨due,hdue⟩:∃ d,d=dueP now k.ps:=⟨_,rfl⟩
 obtain ⟨rest,hrest⟩:∃ d,d=restP now k.ps:=⟨_,rfl⟩
 change _=List.filter _ _ at hdue
 change _=List.filter _ _ at hrest
 rw [← hdue,← hrest] at HD
 rw [← hdue] at hR2
 rw [← hdue,← hrest]
 change 0<(List.filter _ _).length at hn10
 rw [← hdue] at hn10
 have hll:due.length≤1000:=by rw [hdue];exact Nat.le_trans (List.length_filter_le _ _) hl
 have y3a:w2.cell? ⟨g3,0,none⟩=some (.int .i64 now):=(HD.out.bel.cell (p:=⟨g3,0,none⟩) hg31).trans y3
 have hg32:g3<w2.heap.size:=Nat.lt_of_lt_of_le hg31 HD.out.bel.size
 have KS2:Hid (SortK due W.heap.size):=by have:=KS.out;unfold dueP at this;rw [← hdue] at this;exact Z9 this
 have c2b:=(U2.cell (p:=⟨gc,2,none⟩) hg).trans (HB.out.at 2 _ rfl)
 have c5b:=(U2.cell (p:=⟨gc,5,none⟩) hg).trans (HB.out.at 5 _ rfl)
 have HDU:=Z9 hdue
 have HRE:=Z9 hrest
 have HU2:=Z9 U2
 have HR2:=Z9 hR2
 clear D U2 hR2 hdue hrest KS kd c0 c2 c5 HB3 HR1 y3
 obtain ⟨W3,hW3⟩:∃ V,V=w2.alloc (.cells #[.slice A1 due.length ca] 251):=⟨_,rfl⟩
 obtain ⟨g6,hg6⟩:∃ g,g=w2.heap.size:=⟨_,rfl⟩
 have U3:Below w2.heap.size w2 W3:=by rw [hW3];exact (Below.refl _ _).alloc (Nat.le_refl _) _
 have b6:Blk W3 g6 251 #[.slice A1 due.length ca]:=by rw [hW3,hg6];exact Blk.new w2 _ _
 have y6:W3.cell? ⟨g6,0,none⟩=some (.slice A1 due.length ca):=b6.at 0 _ rfl
 have hg63:g6<W3.heap.size:=b6.lt
 have hR3:RowsNew W.heap.size W3 10 Pc.row A1 due:=⟨(HR2.out.later U3).1,fun h0 b off e=>Nat.le_trans HU1.out.size ((HR2.out.later U3).2 h0 b off e)⟩
 have hgw2:gc<w2.heap.size:=Nat.lt_of_lt_of_le hg HU2.out.size
 have hwg:W.heap.size≤g6:=by rw [hg6];exact HU2.out.size
 have ko:=ztw A1 ca due (.func (Fn.func 112) #[] #[.pointer (some ⟨g6,0,none⟩)]) W3 hR3.1 hll hn10 (fun V gI f h1 h2 h3 h4=>KS2.out V gI g6 A1 ca f (by omega) (by omega) ((h2.cell (p:=⟨g6,0,none⟩) hg63).trans y6) ⟨(hR3.1.keep (fun _ hp=>h2.cell hp)).more h2.size,fun h0 b off e hx=>by
  obtain ⟨b',off',e',hlt',_⟩:=hR3.1 h0
  rw [e] at e';injection e' with e';injection e' with e1 _
  simp at hx;omega⟩ h3 h4)
 replace c2b:W3.cell? ⟨gc,2,none⟩=some (.slice k.pA k.ps.length k.pc):=(U3.cell (p:=⟨gc,2,none⟩) hgw2).trans c2b
 replace c5b:W3.cell? ⟨gc,5,none⟩=some (.int .i64 k.now):=(U3.cell (p:=⟨gc,5,none⟩) hgw2).trans c5b
 have y3b:W3.cell? ⟨g3,0,none⟩=some (.int .i64 now):=(U3.cell (p:=⟨g3,0,none⟩) hg32).trans y3a
 have HKO:=Z9 ko
 have HU3:=Z9 U3
 have HB6:=Z9 b6
 have HW3:=Z9 hW3
 have hO2:Owns w2 W.heap.size 255 10 A2 rest.length cb (rest.flatMap Pc.row):=HD.out.own2.base_mono HU1.out.size
 have HO2:=Z9 (hO2.later9 U3)
 have hO2b:∀ q,ownB A2=some q→q<g6:=fun q hq=>by have:=(hO2.block q hq).2;omega
 have HO2B:=Z9 hO2b
 clear hO2 hO2b HD
 have HG6:=Z9 hg6
 have hne6:¬gc=g6:=by omega
 clear ko U3 b6 hR3 KS2 HR2 hW3 hg6
 go_upto_region 6 with fail
 rw [← HW3.out,← HG6.out]
 clear HW3
 go_wp2_with fail
 refine HKO.out.mono ?_
 rintro e w4 ⟨A3,c3,ps3,rfl,hl3,hm3,hO3,hb3⟩
 have U4:Below W.heap.size W w4:=HU2.out.trans ((HU3.out.trans (hb3.mono HU3.out.size)).mono HU2.out.size)
 have bc4:Blk w4 gc 253 k.row.toArray:=HB.out.later U4
 have b64:Blk w4 g6 251 #[.slice A1 due.length ca]:=HB6.out.later hb3
 have x6:w4.cell? ⟨g6,0,none⟩=some (.slice A1 due.length ca):=b64.at 0 _ rfl
 have x2:w4.cell? ⟨gc,2,none⟩=some (.slice k.pA k.ps.length k.pc):=bc4.at 2 _ rfl
 have x5:w4.cell? ⟨gc,5,none⟩=some (.int .i64 k.now):=bc4.at 5 _ rfl
 have x3:w4.cell? ⟨g3,0,none⟩=some (.int .i64 now):=(hb3.cell (p:=⟨g3,0,none⟩) (zdf y3b)).trans y3b
 have f6:=b64.frozen 0
 have f2:=bc4.frozen 2
 have f5:=bc4.frozen 5
 have hne3:¬g3=g6:=by have:=HG6.out;omega
 have hne4:¬g3=gc:=by have:=HG3.out;omega
 have HO24:=Z9 (HO2.out.later9 hb3)
 have HO34:=Z9 hO3
 have HP3:=Z9 hm3
 have HU4:=Z9 U4
 have HBC:=Z9 bc4
 have HB64:=Z9 b64
 have hg64:=b64.lt
 have hg4:=bc4.lt
 clear hO3 hm3 U4 bc4 b64 HO2 HKO hb3 y6 c2b c5b y3b HB6
 go_upto_region 10 with fail
 obtain ⟨Va,hVa⟩:∃ V,V=w4.setCell ⟨g6,0,none⟩ (.slice A3 due.length c3):=⟨_,rfl⟩
 have oa:OnlyB g6 w4 Va:=by rw [hVa];exact OnlyB.setCell _ _ _ _
 have ba6:Blk Va g6 251 #[.slice A3 due.length c3]:=by rw [hVa];exact HB64.out.set_ 0 _
 rw [← hVa]
 clear hVa
 have bac:=oa.blk HBC.out hne6
 obtain ⟨Vb,hVb⟩:∃ V,V=Va.setCell ⟨gc,2,none⟩ (.slice A2 rest.length cb):=⟨_,rfl⟩
 have ob:OnlyB gc Va Vb:=by rw [hVb];exact OnlyB.setCell _ _ _ _
 have bbc:Blk Vb gc 253 (Ca.row { k with pA:=A2,pc:=cb,ps:=rest }).toArray:=by rw [hVb];exact bac.set_ 2 _
 rw [← hVb]
 clear hVb
 have bb6:=ob.blk ba6 (fun e=>hne6 e.symm)
 obtain ⟨W5,hW5⟩:∃ V,V=Vb.setCell ⟨gc,5,none⟩ (.int .i64 now):=⟨_,rfl⟩
 have oc:OnlyB gc Vb W5:=by rw [hW5];exact OnlyB.setCell _ _ _ _
 have bcc:Blk W5 gc 253 (Ca.row { k with pA:=A2,pc:=cb,ps:=rest,now:=now }).toArray:=by rw [hW5];exact bbc.set_ 5 _
 rw [← hW5]
 clear hW5
 have bc6:=oc.blk bb6 (fun e=>hne6 e.symm)
 have z6:W5.cell? ⟨g6,0,none⟩=some (.slice A3 due.length c3):=bc6.at 0 _ rfl
 have C45:Chg [gc,g6] w4 W5:=(Chg.of_only oa (by simp)).trans ((Chg.of_only ob (by simp)).trans (Chg.of_only oc (by simp)))
 have CW5:Chg [gc] W W5:=by
  have h1:Chg [gc] W w4:=Chg.of_below HU4.out
  refine ⟨C45.os.trans h1.os,C45.tape.trans h1.tape,C45.output.trans h1.output,Nat.le_trans h1.size C45.size,fun q hq hn => ?_⟩
  have hq4:=Nat.lt_of_lt_of_le hq h1.size
  refine (C45.block q hq4 (fun hx => ?_)).trans (h1.block q hq hn)
  simp at hx hn
  omega
 have hO5:Owns W5 W.heap.size 255 10 A2 rest.length cb (rest.flatMap Pc.row):=C45.owns HO24.out (fun q hq hx=>by
  have h1:=(HO24.out.block q hq).1
  simp at hx
  rcases hx with e|e
  · omega
  · have h2:=HO2B.out q hq
    omega)
 have hR5:RowsAt W5 W5.heap.size 10 Pc.row A3 ps3:=by
  have h1:=zkl (ps:=ps3) (by rw [hl3];exact HO34.out)
  intro h0
  obtain ⟨b,off,e,hlt',hc⟩:=h1.1 h0
  have h2:=h1.2 h0 b off e
  exact ⟨b,off,e,Nat.lt_of_lt_of_le hlt' C45.size,fun q a ha j v hv=>(C45.cell (p:=⟨b,off+q*10+j,none⟩) hlt' (by simp;omega)).trans (hc q a ha j v hv)⟩
 have hI5:∀ p∈ps3,IntsAt W5 W5.heap.size .u8 p.A p.zs∧0<p.zs.length∧p.zs.length≤2000∧p.ok∧p∈due:=fun p hp=>by
  have hpd:=HP3.out p hp
  have hpk:p∈k.ps:=by have:=HDU.out;rw [this] at hpd;exact (List.mem_filter.1 hpd).1
  obtain ⟨h1,h2,h3⟩:=HI.out p hpk
  exact ⟨(h1.chg CW5 (fun x hx=>hx)).1,h2,h3,ok p hpk,hpd⟩
 have HC5:=Z9 CW5
 have HBC5:=Z9 bcc
 have HO5:=Z9 hO5
 have HR5:=Z9 hR5
 have HI5:=Z9 hI5
 clear oa ob oc ba6 bac bbc bb6 bcc bc6 C45 CW5 hO5 hR5 hI5 x6 x2 x5 x3 f6 f2 f5
 have ka:=Z9 fun (p:Pc) hp (V:World)=>zgt p hp V
 unfold Pc.row at ka
 have hln:ps3.length≤1000:=by rw [hl3];exact hll
 clear HB HR HI HW1 HG3 HU1 hlt1 hlt2 hlt3 hlt4 hd h1 hn10 hll HU2 HU3 HO24 HO34 HP3 HU4 HBC HB64 HO2B HG6 kz h0
 rw [← hl3] at z6 ⊢
 have HL3:=Z9 hl3
 clear hl3
 go_wp2_with fail
 go_loopw [8,45] (fun s8 i wr => ∃ (j:Nat) (A':Option Addr) (c':Nat) (ds:List Dg),j≤ps3.length∧i = .int .i64 j∧s8 = .slice A' j c'∧Hid (ds.length=j∧∀ d∈ds,∃ p∈due,d.zs=p.zs)∧Hid (RLoop W5 wr A' c' ds)) (fun _ i _=>ps3.length-(intOf i).toNat)
 case atStart=>exact ⟨0,none,0,[],Nat.zero_le _,rfl,rfl,Z9 ⟨rfl,fun d hd=>by cases hd⟩,Z9 ⟨Owns.nil,(fun d hd=>by cases hd),Below.refl _ _⟩⟩
 case round =>
  obtain ⟨j,A',c',ds,hj,rfl,rfl,HDS,HL⟩:=hrel
  have hi0:(0:Int)≤(j:Int):=by omega
  by_cases hlt:j<ps3.length
  rotate_left
  · obtain rfl:j=ps3.length:=by omega
    have hn:¬(ps3.length:Int)<(ps3.length:Int):=by omega
    go_wp2_with fail
    go_ret2
    have hds:=HDS.out.1
    have hrw:=zcv (row:=Dg.row) (size:=5) (fun _=>rfl) (by decide) HL.out.own rfl
    have hsz:=HC5.out.size
    have hr0:restP now k.ps=rest:=HRE.out.symm
    have hd0:dueP now k.ps=due:=HDU.out.symm
    refine ⟨A',c',ds,A2,cb,by rw [hds];rfl,by rw [hds,HL3.out,hd0],by rw [hd0];exact HDS.out.2,⟨hrw.1,fun h0 b off e=>Nat.le_trans hsz (hrw.2 h0 b off e)⟩,fun d hd => ?_,by rw [hr0];exact HBC5.out.later HL.out.bel,by rw [hr0];exact HO5.out.later9 HL.out.bel,HC5.out.trans (Chg.of_below HL.out.bel)⟩
    obtain ⟨p1,p2,p3⟩:=HL.out.pay d hd
    exact ⟨⟨p1.1,fun h0 b off e=>Nat.le_trans hsz (p2 h0 b off e)⟩,p3⟩
  have hi1:(j:Int)<(ps3.length:Int):=by omega
  obtain ⟨p,hp⟩:∃ p,ps3[j]? = some p:=⟨_,List.getElem?_eq_getElem hlt⟩
  obtain ⟨q1,q2,q3,q4,q5⟩:=HI5.out p (List.mem_of_getElem? hp)
  obtain ⟨b,off,rfl,hbW,y0,y1,y2,y3,y4,y5,y6,y7,y8,y9⟩:=zhr (HR5.out.keep (w':=wr) (fun _ hp=>HL.out.bel.cell hp)) hp
  have hbr:b<wr.heap.size:=Nat.lt_of_lt_of_le hbW HL.out.bel.size
  have hI9:IntsAt wr wr.heap.size .u8 p.A p.zs:=(q1.keep (fun _ hp=>HL.out.bel.cell hp)).more HL.out.bel.size
  have HI9:=Z9 hI9
  have HQ5:=Z9 q5
  clear hp q1 q5 hI9
  go_upto_region 13 with fail
  obtain ⟨X,hX⟩:∃ X,X=wr.alloc (.cells #[.bool p.f.lost, .int .i64 p.f.d, .bool p.f.again, .int .i64 p.f.ad, .int .i64 p.no, .string { data := #[97] }, .string { data := #[98] }, .int .i64 p.sent, .bool p.second, .slice p.A p.zs.length p.c] 255):=⟨_,rfl⟩
  obtain ⟨hb,hh⟩:∃ hb,hb=wr.heap.size:=⟨_,rfl⟩
  have BX:=Blk.new wr 255 #[.bool p.f.lost, .int .i64 p.f.d, .bool p.f.again, .int .i64 p.f.ad, .int .i64 p.no, .string { data := #[97] }, .string { data := #[98] }, .int .i64 p.sent, .bool p.second, .slice p.A p.zs.length p.c]
  have UX:Below wr.heap.size wr X:=by rw [hX];exact (Below.refl wr.heap.size wr).alloc (Nat.le_refl _) _
  rw [← hX,← hh] at BX
  rw [← hX,← hh]
  have v0:X.cell? ⟨hb,0,none⟩=some (.bool p.f.lost):=BX.at 0 _ rfl
  have v1:X.cell? ⟨hb,1,none⟩=some (.int .i64 p.f.d):=BX.at 1 _ rfl
  have v2:X.cell? ⟨hb,2,none⟩=some (.bool p.f.again):=BX.at 2 _ rfl
  have v3:X.cell? ⟨hb,3,none⟩=some (.int .i64 p.f.ad):=BX.at 3 _ rfl
  have v4:X.cell? ⟨hb,4,none⟩=some (.int .i64 p.no):=BX.at 4 _ rfl
  have v5:X.cell? ⟨hb,5,none⟩=some (.string { data := #[97] }):=BX.at 5 _ rfl
  have v6:X.cell? ⟨hb,6,none⟩=some (.string { data := #[98] }):=BX.at 6 _ rfl
  have v7:X.cell? ⟨hb,7,none⟩=some (.int .i64 p.sent):=BX.at 7 _ rfl
  have v8:X.cell? ⟨hb,8,none⟩=some (.bool p.second):=BX.at 8 _ rfl
  have v9:X.cell? ⟨hb,9,none⟩=some (.slice p.A p.zs.length p.c):=BX.at 9 _ rfl
  have hT:hb∉(ownB A').toList:=fun hx=>by
   have e:ownB A'=some hb:=by simpa using hx
   have:=(HL.out.own.block hb e).2
   omega
  have HIX:Hid (IntsAt X X.heap.size .u8 p.A p.zs):=Z9 ((HI9.out.keep (fun _ hp=>UX.cell hp)).more UX.size)
  have HOX:Hid (Owns X W5.heap.size 213 5 A' ds.length c' (ds.flatMap Dg.row)):=Z9 (HL.out.own.later9 UX)
  have HUX:=Z9 UX
  have hds:ds.length=j:=HDS.out.1
  have hj1:j+1≤maxLen:=by unfold maxLen;omega
  have hj2:(j+1)*72≤140737488355328:=by omega
  have hw5:W5.heap.size≤X.heap.size:=Nat.le_trans HL.out.bel.size UX.size
  have kcl:=Z9 fun (V:World) hI=>zfz p.A p.c p.zs V hI q2 q3
  have HDSL:=Z9 hds
  clear hX hh UX BX y0 y1 y2 y3 y4 y5 y6 y7 y8 y9 z6 HC5 HBC5 HO5 HDU HRE hds
  go_region_held3 (fun w'=>Chg (ownB A').toList X w'∧w'.cell? ⟨hb,0,none⟩=some (.bool p.f.lost)∧w'.cell? ⟨hb,1,none⟩=some (.int .i64 p.f.d)∧w'.cell? ⟨hb,2,none⟩=some (.bool p.f.again)∧w'.cell? ⟨hb,3,none⟩=some (.int .i64 p.f.ad)∧w'.cell? ⟨hb,4,none⟩=some (.int .i64 p.no)∧w'.cell? ⟨hb,5,none⟩=some (.string { data := #[97] })∧w'.cell? ⟨hb,6,none⟩=some (.string { data := #[98] })∧w'.cell? ⟨hb,7,none⟩=some (.int .i64 p.sent)∧w'.cell? ⟨hb,8,none⟩=some (.bool p.second)∧w'.cell? ⟨hb,9,none⟩=some (.slice p.A p.zs.length p.c))
   (first|assumption|((try go_split_ands);refine zbv ?_ (fun hbX=>⟨zbq hbX hT v0,zbq hbX hT v1,zbq hbX hT v2,zbq hbX hT v3,zbq hbX hT v4,zbq hbX hT v5,zbq hbX hT v6,zbq hbX hT v7,zbq hbX hT v8,zbq hbX hT v9⟩);(with_reducible repeat first|assumption|exact Chg.refl _ _|refine Chg.drew ?_|refine Chg.push ?_ _)))
   (first
    | (go_at_call 108;refine (ka.out p q4 _).mono ?_;rintro e w7 ⟨rfl,qb⟩;have hbw:Below X.heap.size X w7:=zak qb (by (try go_split_ands);first|assumption|exact Below.drew (Below.refl _ _));have hcw:Chg (ownB A').toList X w7:=Chg.of_below hbw)
    | (go_at_call 107;refine (kcl.out w7 ((HIX.out.keep (fun _ hp=>hbw.cell hp)).more hbw.size)).mono ?_;rintro e w8 ⟨A8,c8,rfl,hc8,hI8,hbel2⟩;have hbw2:Below X.heap.size X w8:=zak hbel2 hbw;have hcw2:Chg (ownB A').toList X w8:=Chg.of_below hbw2)
    | ((refine zbx 63 (by rfl) (by rfl) _ _ 208 (by rfl) W5.heap.size 213 5 72 _ Tryz.underlying208 ztx rfl (by decide) A' j c' (ds.flatMap Dg.row) (by rfl) (Owns.alloc (by have h9:=HOX.out;rw [HDSL.out] at h9;exact h9.later9 hbw2) _) w8.heap.size [.int .i64 p.no, .string { data := #[97] }, .string { data := #[98] }, .int .i64 p.at_, .slice A8 p.zs.length c8] rfl (by simp [Value.oneCell']) (by rfl) (Blk.new w8 _ _) hj1 hj2 (by have:=hbw2.size;simp;omega) ?_);intro An cn wn qo hgr hat;have hcw3:Chg (ownB A').toList X wn:=Chg.trans (Chg.push hcw2 _) (Chg.of_grown hgr (fun k e=>Or.inl (by rw [e];simp)))))
  all_goals
   go_wp2_with fail
   refine ⟨⟨j+1,An,cn,ds ++ [⟨p.no,p.at_,A8,c8,p.zs⟩],by omega,by simp,rfl,Z9 ⟨by simp [HDSL.out],fun d hd => ?_⟩,Z9 ?_⟩,?_⟩
   · rcases List.mem_append.1 hd with hd|hd
     · exact HDS.out.2 d hd
     · simp at hd;subst hd;exact ⟨p,HQ5.out,rfl⟩
   · exact HL.out.step HUX.out (by assumption) hbel2 hI8 hc8 (by rw [HDSL.out];exact qo) hgr hat
   · simp [intOf];omega
structure CaM (W:World) (S:List Nat) (base gc:Nat) (k:Ca):Prop where
 blk:Blk W gc 253 k.row.toArray
 own:Owns W base 255 10 k.pA k.ps.length k.pc (k.ps.flatMap Pc.row)
 ne:ownB k.pA≠some gc
 gcS:gc∈S
 pS:∀ g,ownB k.pA=some g→g∈S
 fts:RowsAv W S 4 Ft.row k.fA k.fs
 pay:∀ p∈k.ps,IntsAv W S .u8 p.A p.zs∧0<p.zs.length∧p.zs.length≤2000
 ok:∀ p∈k.ps,p.ok
 fok:∀ f∈k.fs,f.ok
 lt:∀ x∈S,x<W.heap.size
structure Mv (T S:List Nat) (W:World) (S':List Nat) (W':World):Prop where
 sub:∀ x∈S,x∈S'
 new:∀ x∈S',x∈S∨W.heap.size≤x
 chg:Chg T W W'
 ts:∀ x∈T,x∈S
 lt:∀ x∈S',x∈S∨x<W'.heap.size
section
variable {T S S' S'':List Nat} {W W' W'':World}
theorem Mv.ints {k:IntKind} {A:Option Addr} {zs:List Int} (m:Mv T S W S' W') (h:IntsAv W S k A zs):IntsAv W' S' k A zs:=(h.re m.new).chg m.chg (fun x hx=>m.sub x (m.ts x hx))
theorem Mv.rows {α : Type} {size:Nat} {row : α → List Value} {A:Option Addr} {l:List α} (m:Mv T S W S' W') (h:RowsAv W S size row A l):RowsAv W' S' size row A l:=(h.re m.new).chg m.chg (fun x hx=>m.sub x (m.ts x hx))
theorem Mv.q {A:Option Addr} {l:List TW} (m:Mv T S W S' W') (h:QAv W S A l):QAv W' S' A l:=(h.re m.new).chg m.chg (fun x hx=>m.sub x (m.ts x hx))
theorem Mv.add (hb:Below W.heap.size W W') {g:Nat} (h1:W.heap.size≤g) (h2:g<W'.heap.size):Mv [] S W (g::S) W' :=
 ⟨fun _ h=>List.mem_cons_of_mem _ h,fun x h=>(List.mem_cons.1 h).elim (fun e => .inr (e ▸ h1)) .inl,Chg.of_below hb,by simp,fun x h=>(List.mem_cons.1 h).elim (fun e => .inr (e ▸ h2)) .inl⟩
theorem Mv.trans {T':List Nat} (m:Mv T S W S' W') (m2:Mv T' S' W' S'' W'') (ht:∀ x∈T',x∈T∨W.heap.size≤x):Mv T S W S'' W'' :=
 ⟨fun x h=>m2.sub x (m.sub x h),fun x h=>(m2.new x h).elim (m.new x) (fun h => .inr (Nat.le_trans m.chg.size h)),
  ⟨m2.chg.os.trans m.chg.os,m2.chg.tape.trans m.chg.tape,m2.chg.output.trans m.chg.output,Nat.le_trans m.chg.size m2.chg.size,fun q hq hn=>(m2.chg.block q (Nat.lt_of_lt_of_le hq m.chg.size) (fun hx=>(ht q hx).elim hn (fun h=>by omega))).trans (m.chg.block q hq hn)⟩,
  m.ts,fun x h=>(m2.lt x h).elim (fun h=>(m.lt x h).elim .inl (fun h => .inr (Nat.lt_of_lt_of_le h m2.chg.size))) .inr⟩
theorem Mv.weak {T':List Nat} (m:Mv [] S W S' W') (h:∀ x∈T',x∈S):Mv T' S W S' W':=⟨m.sub,m.new,m.chg.more (by simp),h,m.lt⟩
theorem Mv.refl (T S:List Nat) (W:World) (h:∀ x∈T,x∈S):Mv T S W S W:=⟨fun _ h=>h,fun _ h => .inl h,Chg.refl _ _,h,fun _ h => .inl h⟩
theorem Mv.below (hb:Below W.heap.size W W'):Mv [] S W S W':=⟨fun _ h=>h,fun _ h => .inl h,Chg.of_below hb,by simp,fun _ h => .inl h⟩
theorem Mv.of_chg (h:Chg T W W') (ht:∀ x∈T,x∈S):Mv T S W S W':=⟨fun _ h=>h,fun _ h => .inl h,h,ht,fun _ h => .inl h⟩
theorem CaM.mv {base gc:Nat} {k:Ca} (h:CaM W S base gc k) (m:Mv T S W S' W') (h1:gc∉T) (h2:∀ g,ownB k.pA=some g→g∉T):CaM W' S' base gc k :=
 ⟨m.chg.blk h.blk h1,m.chg.owns h.own h2,h.ne,m.sub _ h.gcS,fun g hg=>m.sub _ (h.pS g hg),m.rows h.fts,fun p hp=>⟨m.ints (h.pay p hp).1,(h.pay p hp).2⟩,h.ok,h.fok,fun x hx=>(m.lt x hx).elim (fun h1=>Nat.lt_of_lt_of_le (h.lt x h1) m.chg.size) id⟩
end
def sumB (fs:List (List Int)) (but i m:Nat):Int:=Sb.sumA (fs.take m) i-if but<m then (fs.getD but []).getD i 0 else 0
theorem zol (fs:List (List Int)) (but i:Nat):sumB fs but i 0=0:=by unfold sumB;simp [Sb.sumA]
theorem zom (fs:List (List Int)) (but i m:Nat) (f:List Int) (h:fs[m]? = some f):sumB fs but i (m+1)=sumB fs but i m+if m=but then 0 else f.getD i 0:=by
 unfold sumB
 rw [zki fs m i f h]
 by_cases e:m=but
 · subst e
   have e2:fs.getD m []=f:=by rw [List.getD_eq_getElem?_getD,h];rfl
   rw [e2,if_pos (by omega),if_neg (by omega),if_pos rfl];omega
 · rw [if_neg e]
   by_cases h2:but<m
   · rw [if_pos h2,if_pos (by omega)];omega
   · rw [if_neg h2,if_neg (by omega)];omega
theorem zun (fs:List (List Int)) (but i m:Nat) (hb:∀ f∈fs,∀ z∈f, -32768≤z∧z≤32767) (hl:fs.length≤64) : -3000000≤sumB fs but i m∧sumB fs but i m≤3000000:=by
 have h1:=zkh (fs.take m) i (fun f hf=>hb f (List.mem_of_mem_take hf))
 have h2:(fs.take m).length≤64:=by rw [List.length_take];omega
 have h3 : -32768≤(if but<m then (fs.getD but []).getD i 0 else 0)∧(if but<m then (fs.getD but []).getD i 0 else 0)≤32768:=by
  split
  · by_cases hk:but<fs.length
    · by_cases hj:i<(fs.getD but []).length
      · have hm:fs.getD but []∈fs:=by rw [List.getD_eq_getElem?_getD,List.getElem?_eq_getElem hk];exact List.getElem_mem hk
        have:=hb _ hm ((fs.getD but []).getD i 0) (by rw [List.getD_eq_getElem?_getD (l:=fs.getD but []),List.getElem?_eq_getElem hj];exact List.getElem_mem hj)
        omega
      · rw [List.getD_eq_getElem?_getD (l:=fs.getD but []),List.getElem?_eq_none (Nat.le_of_not_lt hj)];exact ⟨by decide,by decide⟩
    · rw [List.getD_eq_getElem?_getD (l:=fs),List.getElem?_eq_none (Nat.le_of_not_lt hk)];simp
  · exact ⟨by decide,by decide⟩
 unfold sumB
 omega
theorem zls (A:Option Addr) (l:List TF) (c but:Nat) (hbut:but<l.length) (w:World) (hF:Frs w w.heap.size A l) (ok:OkF l):Calls Tryz.prog 12 #[.slice A l.length c, .int .i64 (but:Int)] w fun e w' => ∃ B,e = .returned (.slice B 160 160)∧IntsNew w.heap.size w' .i16 B (Sb.mixL (l.map TF.zs) but)∧Below w.heap.size w w':=by
 have hmk:=run_make_row' (P:=Tryz.prog) 51 104 (.int .i16 0) 2 Tryz.underlying51 zdj rfl .i64 .i64 160 (by omega) (by omega) w
 obtain ⟨W1,hW1⟩:∃ W1,W1=w.alloc (.cells (madeCells #[.int .i16 0] 160) 104):=⟨_,rfl⟩
 have hrow:W1.rowIs w.heap.size 104 160 (fun _ => .int .i16 0):=by rw [hW1];exact World.rowIs_made w _ _ _
 have qb:Below w.heap.size w W1:=by rw [hW1];exact (Below.refl _ _).alloc (Nat.le_refl _) _
 rw [← hW1] at hmk
 change (Instr.makeSlice 51 (.int .i64 160) (.int .i64 160)).run Tryz.prog _=_ at hmk
 clear hW1
 have hl64:=ok.len
 have hbd:∀ f∈l.map TF.zs,∀ z∈f, -32768≤z∧z≤32767:=fun f hf=>by
  obtain ⟨a',ha',rfl⟩:=List.mem_map.1 hf
  exact ok.bd a' ha'
 have HBD:=Z9 fun i m=>zun (l.map TF.zs) but i m hbd (by rw [List.length_map];exact hl64)
 have HMX:Hid (∀ i,i<160→Sb.satI (sumB (l.map TF.zs) but i l.length)=(Sb.mixL (l.map TF.zs) but).getD i 0):=Z9 fun i hi=>by
  unfold Sb.mixL
  rw [zfv _ 160 i hi]
  unfold sumB
  rw [if_pos hbut,List.take_of_length_le (by rw [List.length_map];exact Nat.le_refl _)]
 go_enter Tryz.func12,Tryz.ntmps12
 go_wp2
 go_loopw [6] (fun i wr => ∃ j:Nat,j≤160∧i = .int .i64 j∧Hid (wr.rowIs w.heap.size 104 160 (fun i => .int .i16 (if i<j then Sb.satI (sumB (l.map TF.zs) but i l.length) else 0)))∧Hid (Below w.heap.size w wr)) (fun i _=>160-(intOf i).toNat)
 case atStart=>exact ⟨0,Nat.zero_le _,rfl,Z9 (hrow.congr (by simp)),Z9 qb⟩
 case round =>
  obtain ⟨j,hj,rfl,HR,HB⟩:=hrel
  clear hrow qb hmk
  obtain ⟨wo,rfl⟩:∃ wo:World,wo=wr:=⟨_,rfl⟩
  by_cases hlt:j<160
  · have hi0:(0:Int)≤(j:Int):=by omega
    have hi1:(j:Int)<(160:Int):=by omega
    go_wp2
    go_loopw [7,8] (fun n k wr => ∃ m:Nat,m≤l.length∧k = .int .i64 m∧n = .int .i64 (sumB (l.map TF.zs) but j m)∧wr=wo) (fun _ k _=>l.length-(intOf k).toNat)
    case atStart=>exact ⟨0,Nat.zero_le _,rfl,by rw [zol],rfl⟩
    case round =>
     obtain ⟨m,hm,rfl,rfl,hwo⟩:=hrel
     subst hwo
     by_cases hlm:m<l.length
     · obtain ⟨a,ha⟩:∃ a,l[m]? = some a:=⟨_,List.getElem?_eq_getElem hlm⟩
       have ham:=List.mem_of_getElem? ha
       obtain ⟨b,off,rfl,hbB,qc⟩:=hF.1 (by omega)
       have hc0:=qc m a ha 0 _ rfl
       simp only [Nat.mul_one,Nat.add_zero] at hc0
       have hck:wr.cell? ⟨b,off+m,none⟩=some (.slice a.A a.zs.length a.c):=(HB.out.cell (p:=⟨b,off+m,none⟩) hbB).trans hc0
       have hI:=hF.2 a ham
       have h160:=ok.z160 a ham
       have hw:=ok.bd a ham
       have hst:=zom (l.map TF.zs) but j m a.zs (by rw [List.getElem?_map,ha];rfl)
       have hb1:=HBD.out j m
       obtain ⟨S,hS⟩:∃ S,S=sumB (l.map TF.zs) but j m:=⟨_,rfl⟩
       rw [← hS] at hst hb1 ⊢
       have HST:=Z9 hst
       obtain ⟨fA,fc,fz⟩:=a
       simp only at hck hI h160 hw HST
       have hm0:(0:Int)≤(m:Int):=by omega
       have hm1:(m:Int)<(l.length:Int):=by omega
       clear hc0 qc ham ha hst hS
       by_cases hmb:m=but
       · subst hmb
         clear hI hw
         go_wp2
         go_roundw
         case rel =>
          refine ⟨m+1,by omega,by go_num,?_,trivial⟩
          rw [HST.out,if_pos rfl,Int.add_zero]
         case measure=>simp [intOf];omega
       · have hmb2:¬(m:Int)=(but:Int):=by omega
         by_cases hjf:j<fz.length
         · obtain ⟨b2,off2,rfl,hbB2,hcell2⟩:=hI (by omega)
           have hcf:wr.cell? ⟨b2,off2+j,none⟩=some (.int .i16 (fz.getD j 0)):=(HB.out.cell (p:=⟨b2,off2+j,none⟩) hbB2).trans (hcell2 j hjf)
           have hfb:=hw.at hjf
           obtain ⟨F,hF'⟩:∃ F,F=fz.getD j 0:=⟨_,rfl⟩
           rw [← hF'] at hcf hfb HST
           have hw1:IntKind.i64.wrap F=F:=by simp only [IntKind.wrap,IntKind.bits,IntKind.signed];simp;omega
           have hw2:IntKind.i64.wrap (S+F)=S+F:=by simp only [IntKind.wrap,IntKind.bits,IntKind.signed];simp;omega
           have hj2:(j:Int)<(fz.length:Int):=by omega
           clear hcell2 hF' hfb hI hw
           go_wp2
           go_roundw
           case rel =>
            refine ⟨m+1,by omega,by go_num,?_,trivial⟩
            rw [HST.out,if_neg hmb]
           case measure=>simp [intOf];omega
         · have hj2:¬(j:Int)<(fz.length:Int):=by omega
           clear hI hw
           go_wp2
           go_roundw
           case rel =>
            refine ⟨m+1,by omega,by go_num,?_,trivial⟩
            rw [HST.out,if_neg hmb,List.getD_eq_getElem?_getD,List.getElem?_eq_none (Nat.le_of_not_lt hjf)];simp
           case measure=>simp [intOf];omega
     · obtain rfl:m=l.length:=by omega
       have hb1:=HBD.out j l.length
       have hcr:wr.cell? ⟨w.heap.size,j,none⟩=some (.int .i16 0):=by rw [HR.out.cell hlt];simp
       have hfr:=HR.out.frozen j
       have hrl:=HR.out.lt
       obtain ⟨S,hS⟩:∃ S,S=sumB (l.map TF.zs) but j l.length:=⟨_,rfl⟩
       rw [← hS] at hb1 ⊢
       have HS:=Z9 hS
       have hsw:IntKind.i16.wrap (max (-32768) (min 32767 S))=max (-32768) (min 32767 S):=by
        have : -32768≤max (-32768) (min 32767 S)∧max (-32768) (min 32767 S)≤32767:=by omega
        generalize max (-32768) (min 32767 S)=y at *
        simp only [IntKind.wrap,IntKind.bits,IntKind.signed];simp;omega
       clear hS
       go_wp2
       go_roundw
       case rel =>
        refine ⟨j+1,by omega,by go_num,Z9 ?_,Z9 (HB.out.setCell (Nat.le_refl _) _)⟩
        have e:max (-32768) (min 32767 S)=Sb.satI (sumB (l.map TF.zs) but j l.length):=by rw [← HS.out];unfold Sb.satI;omega
        rw [e]
        exact zav (g:=fun i=>Sb.satI (sumB (l.map TF.zs) but i l.length)) HR.out
       case measure=>simp [intOf];omega
  · obtain rfl:j=160:=by omega
    go_wp2
    go_ret
    refine ⟨_,rfl,⟨IntsAt.of_row HR.out (by rw [Sb.mixL_len];exact Nat.le_refl _) (fun i hi => ?_),fun _ b' o' e=>by cases e;exact Nat.le_refl _⟩,HB.out⟩
    rw [Sb.mixL_len] at hi
    rw [if_pos hi,HMX.out i hi]
theorem zlt (ZA:Option Addr) (zn zc:Nat) (A:Option Addr) (c:Nat) (now:Int) (w:World):Calls Tryz.prog 9 #[.agg #[.int .i64 0, .slice ZA zn zc], .slice A 0 c, .int .i64 now] w fun e w'=>e = .returned (.bool true)∧Below w.heap.size w w':=by
 have BT:=Blk.new w 53 #[.int .i64 0, .slice ZA zn zc]
 have U:=(Bel.refl w).push (.cells #[.int .i64 0, .slice ZA zn zc] 53)
 have c0:=BT.at 0 _ rfl
 go_enter Tryz.func9,Tryz.ntmps9
 go_wp2
 go_ret
 exact ⟨rfl,U⟩
theorem zlu (ZA:Option Addr) (zn zc:Nat) (A:Option Addr) (c:Nat) (now:Int) (d:TS) (hz:d.s.zs.length=160) (w:World) (hA:Sds w w.heap.size A [d]) (hat:d.s.at_=now):Calls Tryz.prog 9 #[.agg #[.int .i64 2, .slice ZA zn zc], .slice A 1 c, .int .i64 now] w fun e w'=>e = .returned (.bool true)∧Below w.heap.size w w':=by
 have BT:=Blk.new w 53 #[.int .i64 2, .slice ZA zn zc]
 have U:=Z9 ((Bel.refl w).push (.cells #[.int .i64 2, .slice ZA zn zc] 53))
 have c0:=BT.at 0 _ rfl
 obtain ⟨b,o,rfl,hb,x0,x1,x2⟩:=zkg (hA.1.keep (w':=w.alloc (.cells #[.int .i64 2, .slice ZA zn zc] 53)) fun p hp=>World.cell?_alloc_lt w _ p hp) (k:=0) (a:=d) rfl
 rw [hz] at x1
 rw [hat] at x0
 simp only [Nat.zero_mul,Nat.add_zero] at x0 x1
 clear x2
 go_enter Tryz.func9,Tryz.ntmps9
 go_upto_region 1 with fail
 generalize w.alloc (.cells #[.int .i64 2, .slice ZA zn zc] 53)=W at c0 x0 x1 U BT ⊢
 clear hA
 go_wp2
 go_quiet (fail)
 go_wp2
 go_ret
 exact ⟨rfl,Bel.drewN U.out _⟩
theorem zlv (ZA:Option Addr) (zc:Nat) (A:Option Addr) (c:Nat) (now:Int) (d:TS) (hz:d.s.zs.length=160) (w:World) (hA:Sds w w.heap.size A [d]) (hat:d.s.at_=now) (hZ:IntsAt w w.heap.size .i16 ZA d.s.zs):Calls Tryz.prog 9 #[.agg #[.int .i64 1, .slice ZA 160 zc], .slice A 1 c, .int .i64 now] w fun e w'=>e = .returned (.bool true)∧Below w.heap.size w w':=by
 have BT:=Blk.new w 53 #[.int .i64 1, .slice ZA 160 zc]
 have U:=Z9 ((Bel.refl w).push (.cells #[.int .i64 1, .slice ZA 160 zc] 53))
 have IZ:=Z9 (hZ.push (.cells #[.int .i64 1, .slice ZA 160 zc] 53))
 have IS:=Z9 ((hA.2 d (by simp)).push (.cells #[.int .i64 1, .slice ZA 160 zc] 53))
 have c0:=BT.at 0 _ rfl
 have c1:=BT.at 1 _ rfl
 obtain ⟨b,o,rfl,hb,x0,x1,x2⟩:=zkg (hA.1.keep (w':=w.alloc (.cells #[.int .i64 1, .slice ZA 160 zc] 53)) fun p hp=>World.cell?_alloc_lt w _ p hp) (k:=0) (a:=d) rfl
 rw [hz] at x1
 rw [hat] at x0
 simp only [Nat.zero_mul,Nat.add_zero] at x0 x1
 have k1:=Z9 fun (W:World) hA hB=>zck d.S ZA d.s.zs 160 d.c zc hz W hA hB (by omega)
 obtain ⟨gT,hgT⟩:∃ g,g=w.heap.size:=⟨_,rfl⟩
 rw [← hgT] at c0 c1
 clear x2 hZ BT
 go_enter Tryz.func9,Tryz.ntmps9
 go_upto_region 1 with fail
 generalize w.alloc (.cells #[.int .i64 1, .slice ZA 160 zc] 53)=W at c0 c1 x0 x1 U IZ IS ⊢
 rw [← hgT]
 clear hA hgT
 generalize d.S=DS at *
 generalize d.c=dc at *
 go_upto_region 3 with fail
 go_region_held3 (fun w'=>Below W.heap.size W w'∧w'.cell? ⟨gT,0,none⟩=some (.int .i64 1)∧w'.cell? ⟨gT,1,none⟩=some (.slice ZA 160 zc)∧w'.cell? ⟨b,o,none⟩=some (.int .i64 now)∧w'.cell? ⟨b,o+1,none⟩=some (.slice DS 160 dc))
  (first|assumption|((try go_split_ands);refine zbv ?_ (fun hbX=>⟨zag hbX c0,zag hbX c1,zag hbX x0,zag hbX x1⟩);(with_reducible repeat first|assumption|exact Below.refl _ _|exact zak (by assumption) (by assumption)|refine Below.drew ?_|refine zah ?_ _)))
  (first
   | (go_at_call 11;refine (k1.out _ (IS.out.later (by (try go_split_ands);first|assumption|exact Below.drew (Below.refl _ _))) (IZ.out.later (by (try go_split_ands);first|assumption|exact Below.drew (Below.refl _ _)))).mono ?_;rintro e w7 ⟨rfl,qb⟩;have hbw:Below W.heap.size W w7:=zak qb (by (try go_split_ands);first|assumption|exact Below.drew (Below.refl _ _))))
 all_goals
  go_wp2_with fail
  go_ret
  exact ⟨rfl,Bel.later U.out hbw⟩
end Go.Proofs.YtbcgnddpkiemoaaGreat
namespace Go.Proofs.YtbcgnddpkiemoaaGreat
open Go.RowKit
theorem zec:(Tryz.prog.info? 5).map (fun i=>(i.zero,i.size,i.bytes))=some (some (.int .u8 0),1,1):=by kernel_rfl
def pu8s (l:List Int):List Value:=l.map (Value.int .u8)
theorem zon (a b:List Int):pu8s (a++b)=pu8s a++pu8s b:=List.map_append
theorem zoo (r:Nat):(2:Int) ^ (8*r)=256 ^ r:=by
 rw [Int.pow_mul];rfl
theorem zuo {w:World} {base c:Nat} {A:Option Addr} {a:List Int} {b:Int} {e:TypeId} (h:Owns w base e 1 A (a.length+1) c (pu8s a ++ [.int .u8 b])):Owns w base e 1 A (a ++ [b]).length c (pu8s (a ++ [b])):=by
 rw [List.length_append,zon]
 exact h
def val (l:List Int):Int:=l.foldl (fun n b=>256*n+b) 0
theorem zgz (l:List Int) (b:Int):val (l ++ [b])=256*val l+b:=by
 unfold val
 rw [List.foldl_append];rfl
theorem zop:∀ (n:Nat) (l:List Int),l.length=n→Within 0 255 l→0≤val l∧val l<256 ^ n
 | 0, l, h, _ => by
   obtain rfl:=List.eq_nil_of_length_eq_zero h
   decide
 | n + 1, l, h, hb => by
   obtain ⟨a,b,rfl⟩:∃ a b,l=a ++ [b]:=⟨l.dropLast,l.getLast (by intro e;rw [e] at h;simp at h),(List.dropLast_concat_getLast _).symm⟩
   have ha:a.length=n:=by simpa using h
   have h1:=zop n a ha (fun z hz=>hb z (List.mem_append_left _ hz))
   have h2:=hb b (List.mem_append_right _ (List.mem_singleton.2 rfl))
   rw [zgz,Int.pow_succ]
   omega
theorem zta:∀ (n:Nat) (x:Int),val (be n x)=x % 256 ^ n
 | 0,x=>by simp [be,val]
 | n + 1, x => by
   unfold be
   rw [zgz,zta n,Int.pow_succ]
   have hp:(0:Int)<256 ^ n:=Int.pow_pos (by omega)
   have h1:=Int.emod_add_mul_ediv (x / 256) (256 ^ n)
   have h2:=Int.emod_nonneg (x / 256) (b:=256 ^ n) (by omega)
   have h3:=Int.emod_lt_of_pos (x / 256) hp
   have hx:x=(256*(x / 256 % 256 ^ n)+x % 256)+256 ^ n*256*(x / 256 / 256 ^ n):=by
    have e:256 ^ n*256*(x / 256 / 256 ^ n)=256*(256 ^ n*(x / 256 / 256 ^ n)):=by
     rw [Int.mul_comm (256 ^ n) 256,Int.mul_assoc]
    rw [e]
    omega
   generalize x / 256 % 256 ^ n=q at *
   generalize x / 256 / 256 ^ n=m at *
   have hr:0≤x % 256∧x % 256<256:=by omega
   generalize x % 256=r at *
   rw [hx,Int.add_mul_emod_self_left,Int.emod_eq_of_lt (by omega) (by omega)]
def fld (bs:List Int) (i k:Nat):Int:=val ((bs.drop i).take k)
theorem zra (bs:List Int) (k:Nat) (h:k<bs.length):val (bs.take (k+1))=256*val (bs.take k)+bs.getD k 0:=by
 rw [List.take_succ_eq_append_getElem h,zgz,List.getD_eq_getElem?_getD,List.getElem?_eq_getElem h];rfl
theorem zia (bs:List Int) (p k:Nat) (hb:Within 0 255 bs) (h:p+k≤bs.length):0≤fld bs p k∧fld bs p k<256 ^ k:=by
 unfold fld
 exact zop k _ (by simp;omega) ((hb.drop p).take k)
theorem zup (a b c:List Int) (i k:Nat) (h:a.length=i) (hb:b.length=k):fld (a++(b++c)) i k=val b:=by
 subst h hb
 unfold fld
 rw [List.drop_left,List.take_left]
theorem zga (a c:List Int) (i k:Nat) (x:Int) (h:a.length=i):fld (a++(be k x++c)) i k=x % 256 ^ k:=by
 rw [zup a (be k x) c i k h (zbd k x),zta]
theorem zkm {w:World} {base n c g:Nat} {e t:TypeId} {A:Option Addr} {xs:List Value} {cs:Array Value} (h:Owns w base e 1 A n c xs) (hb:Blk w g t cs) (ht:t≠e):some g≠ownB A:=by
 intro he
 rcases h.2 with ⟨hv,_⟩|⟨g',cap,cur,hv,_,hh,_⟩
 · injection hv with hA _ _
   subst hA
   cases he
 · injection hv with hA _ _
   subst hA
   injection he with he
   subst he
   unfold Blk at hb
   rw [hb] at hh
   injection hh with hh
   injection hh with _ hh
   exact ht hh
theorem IntsAt.sub {w:World} {B:Nat} {k:IntKind} {b off:Nat} {zs:List Int} (h:IntsAt w B k (some ⟨b,off,none⟩) zs) (i m:Nat) (hi:i+m≤zs.length):IntsAt w B k (some ⟨b,off+i,none⟩) ((zs.drop i).take m):=fun h0=>by
 have hm:0<m:=by simp at h0;omega
 obtain ⟨b',off',e,hb,hc⟩:=h (by omega)
 injection e with e
 injection e with e1 e2
 subst e1 e2
 refine ⟨b,off+i,rfl,hb,fun j hj => ?_⟩
 have hj':j<m:=by simp at hj;omega
 rw [Nat.add_assoc,hc (i+j) (by omega)]
 simp [List.getD_eq_getElem?_getD,hj']
end Go.Proofs.YtbcgnddpkiemoaaGreat
namespace Go.Proofs.YtbcgnddpkiemoaaGreat
attribute [local go_sem ↓] zab zac
attribute [local go_sem] zaa zad
open Go.RowKit
theorem zew {k:IntKind} {a b:Int} (h:a=b):Ending.returned (.int k a) = .returned (.int k b):=by rw [h]
theorem zcq (x:Int) (h0 : -9223372036854775808≤x) (h1:x≤9223372036854775807):IntKind.i64.wrap x=x:=by
 by_cases h:0≤x
 · have e:x % 2 ^ 64=x:=Int.emod_eq_of_lt h (by omega)
   simp only [IntKind.wrap,IntKind.bits,IntKind.signed,e]
   rw [if_neg (by simp;omega)]
 · have e:x % 2 ^ 64=x+2 ^ 64:=by omega
   simp only [IntKind.wrap,IntKind.bits,IntKind.signed,e]
   rw [if_pos (by simp;omega)]
   omega
theorem zkn (n:Int):IntKind.u16.wrap n=n % 65536:=by simp [IntKind.wrap,IntKind.bits,IntKind.signed]
theorem zgb (z:Int):bits BinOp.and IntKind.i64 z 65535=z % 65536:=by
 show IntKind.i64.wrap (((BitVec.ofInt 64 z &&& BitVec.ofInt 64 65535).toNat:Nat):Int)=_
 have e:(BitVec.ofInt 64 65535).toNat=2 ^ 16-1:=by decide
 rw [BitVec.toNat_and,e,Nat.and_two_pow_sub_one_eq_mod,BitVec.toNat_ofInt]
 have h:(((z % (2 ^ 64:Nat)).toNat % 2 ^ 16:Nat):Int)=z % 65536:=by omega
 rw [h,zcq _ (by omega) (by omega)]
theorem zlw (z:Int):bits BinOp.and IntKind.i64 z 4294967295=z % 4294967296:=by
 show IntKind.i64.wrap (((BitVec.ofInt 64 z &&& BitVec.ofInt 64 4294967295).toNat:Nat):Int)=_
 have e:(BitVec.ofInt 64 4294967295).toNat=2 ^ 32-1:=by decide
 rw [BitVec.toNat_and,e,Nat.and_two_pow_sub_one_eq_mod,BitVec.toNat_ofInt]
 have h:(((z % (2 ^ 64:Nat)).toNat % 2 ^ 32:Nat):Int)=z % 4294967296:=by omega
 rw [h,zcq _ (by omega) (by omega)]
section
variable (last x a b:Int) (w:World)
theorem zlx (x0:0≤x) (x1:x≤65535) (l0 : -9223372036854775808≤last) (l1:last≤9223372036854775807):Calls Tryz.prog 90 #[.int .i64 last, .int .i64 x, .int .i64 65536] w fun e w'=>e = .returned (.int .i64 (Pk.near last x 65536))∧w=w':=by
 obtain ⟨R,hR⟩:∃ R,R=Pk.near last x 65536:=⟨_,rfl⟩
 rw [← hR]
 unfold Pk.near at hR
 by_cases h1:last < -1152921504606846976
 · rw [if_pos (.inl h1)] at hR
   subst hR
   go_enter Tryz.func90,Tryz.ntmps90
   go_wp2
   go_ret
   exact ⟨rfl,rfl⟩
 by_cases h2:1152921504606846976<last
 · rw [if_pos (.inr h2)] at hR
   subst hR
   go_enter Tryz.func90,Tryz.ntmps90
   go_wp2
   go_ret
   exact ⟨rfl,rfl⟩
 rw [if_neg (by omega)] at hR
 have h1' : -1152921504606846976≤last:=by omega
 have h2':last≤1152921504606846976:=by omega
 have hmk:=zgb (x-last)
 obtain ⟨d,hd⟩:∃ d,d=(x-last) % 65536:=⟨_,rfl⟩
 have hd0:0≤d:=by omega
 have hd1:d≤65535:=by omega
 rw [← hd] at hR hmk
 rw [show (65536:Int) / 2=32768 by decide] at hR
 clear h1 h2
 clear hd
 by_cases h3:32768<d
 · rw [if_pos h3] at hR
   have HR:=Z9 hR
   clear hR
   go_enter Tryz.func90,Tryz.ntmps90
   go_wp2
   go_ret
   exact ⟨zew (by have:=HR.out;omega),rfl⟩
 · rw [if_neg h3] at hR
   have HR:=Z9 hR
   have h3':d≤32768:=by omega
   clear hR h3
   go_enter Tryz.func90,Tryz.ntmps90
   go_wp2
   go_ret
   exact ⟨zew (by have:=HR.out;omega),rfl⟩
theorem zly (x0:0≤x) (x1:x≤4294967295) (l0 : -9223372036854775808≤last) (l1:last≤9223372036854775807):Calls Tryz.prog 90 #[.int .i64 last, .int .i64 x, .int .i64 4294967296] w fun e w'=>e = .returned (.int .i64 (Pk.near last x 4294967296))∧w=w':=by
 obtain ⟨R,hR⟩:∃ R,R=Pk.near last x 4294967296:=⟨_,rfl⟩
 rw [← hR]
 unfold Pk.near at hR
 by_cases h1:last < -1152921504606846976
 · rw [if_pos (.inl h1)] at hR
   subst hR
   go_enter Tryz.func90,Tryz.ntmps90
   go_wp2
   go_ret
   exact ⟨rfl,rfl⟩
 by_cases h2:1152921504606846976<last
 · rw [if_pos (.inr h2)] at hR
   subst hR
   go_enter Tryz.func90,Tryz.ntmps90
   go_wp2
   go_ret
   exact ⟨rfl,rfl⟩
 rw [if_neg (by omega)] at hR
 have h1' : -1152921504606846976≤last:=by omega
 have h2':last≤1152921504606846976:=by omega
 have hmk:=zlw (x-last)
 obtain ⟨d,hd⟩:∃ d,d=(x-last) % 4294967296:=⟨_,rfl⟩
 have hd0:0≤d:=by omega
 have hd1:d≤4294967295:=by omega
 rw [← hd] at hR hmk
 rw [show (4294967296:Int) / 2=2147483648 by decide] at hR
 clear h1 h2
 clear hd
 by_cases h3:2147483648<d
 · rw [if_pos h3] at hR
   have HR:=Z9 hR
   clear hR
   go_enter Tryz.func90,Tryz.ntmps90
   go_wp2
   go_ret
   exact ⟨zew (by have:=HR.out;omega),rfl⟩
 · rw [if_neg h3] at hR
   have HR:=Z9 hR
   have h3':d≤2147483648:=by omega
   clear hR h3
   go_enter Tryz.func90,Tryz.ntmps90
   go_wp2
   go_ret
   exact ⟨zew (by have:=HR.out;omega),rfl⟩
theorem zgc (x0:0≤x) (x1:x≤65535) (l0 : -9223372036854775808≤last) (l1:last≤9223372036854775807):Calls Tryz.prog 88 #[.int .i64 last, .int .u16 x] w fun e w'=>e = .returned (.int .i64 (Pk.near last x 65536))∧w=w':=by
 have k1:=fun W=>zlx last x W x0 x1 l0 l1
 generalize Pk.near last x 65536=R at *
 have K1:=Z9 k1
 clear k1
 go_enter Tryz.func88,Tryz.ntmps88
 go_wp2_with fail
 refine (K1.out _).mono ?_
 rintro e w1 ⟨rfl,rfl⟩
 go_wp2
 go_ret
 exact ⟨rfl,rfl⟩
theorem zfm (x0:0≤x) (x1:x≤4294967295) (l0 : -9223372036854775808≤last) (l1:last≤9223372036854775807):Calls Tryz.prog 62 #[.int .i64 last, .int .u32 x] w fun e w'=>e = .returned (.int .i64 (Pk.near last x 4294967296))∧w=w':=by
 have k1:=fun W=>zly last x W x0 x1 l0 l1
 generalize Pk.near last x 4294967296=R at *
 have K1:=Z9 k1
 clear k1
 go_enter Tryz.func62,Tryz.ntmps62
 go_wp2_with fail
 refine (K1.out _).mono ?_
 rintro e w1 ⟨rfl,rfl⟩
 go_wp2
 go_ret
 exact ⟨rfl,rfl⟩
end
end Go.Proofs.YtbcgnddpkiemoaaGreat
namespace Go.Proofs.YtbcgnddpkiemoaaGreat
attribute [local go_sem] zaa zad
open Go.RowKit
def PutR (base:Nat) (w:World) (A:Option Addr) (out:List Int) (e:Ending) (w':World):Prop :=
 ∃ (A':Option Addr) (c':Nat),e = .returned (.slice A' out.length c')∧Owns w' base 5 1 A' out.length c' (pu8s out)∧Grow w A w' A'
section
variable (w:World) (base:Nat) (A:Option Addr) (c:Nat) (bs:List Int) (x:Int) (n:Nat)
theorem zuq (ho:Owns w base 5 1 A bs.length c (pu8s bs)) (hbase:base≤w.heap.size) (hn:n≤4) (x0:0≤x) (x1:x≤4294967295) (hb:bs.length≤100000) :
 Calls Tryz.prog 53 #[.slice A bs.length c, .int .u32 x, .int .i64 n] w (PutR base w A (bs++be n x)):=by
 have HO:=Z9 ho
 have HW:=Z9 hbase
 clear ho hbase
 go_enter Tryz.func53,Tryz.ntmps53
 go_wp2_with fail
 go_loopg [0,2] n (fun gk s0 s2 wr => ∃ (r:Nat) (A':Option Addr) (c':Nat) (out pre:List Int),r=gk∧r≤n∧s2 = .int .i64 r∧s0 = .slice A' out.length c'∧Hid (out=bs++pre)∧Hid (be n x=pre++be r x)∧Hid (Owns wr base 5 1 A' out.length c' (pu8s out))∧Hid (Grow w A wr A'))
 case atStart=>exact ⟨n,A,c,bs,[],rfl,Nat.le_refl _,rfl,rfl,Z9 (by simp),Z9 rfl,HO,Z9 (Grow.refl w A)⟩
 case round =>
  clear HO
  obtain ⟨r,A',c',out,pre,hr,hrn,rfl,rfl,HE,HP,HO,HG⟩:=hrel
  have hlo:out.length≤200000:=by
   have h1:=HE.out
   have h2:=congrArg List.length HP.out
   rw [List.length_append,zbd,zbd] at h2
   rw [h1,List.length_append];omega
  have hws:=Nat.le_trans HW.out HG.out.size
  by_cases hr0:r=0
  · subst hr0
    have hneg:((0:Nat):Int)≤0:=by omega
    go_wp2_with fail
    go_ret
    have he:out=bs++be n x:=by rw [HE.out,HP.out];simp [be]
    have HE2:=Z9 he
    clear he
    exact ⟨A',c',by rw [HE2.out];rfl,by rw [← HE2.out];exact HO.out,HG.out⟩
  · obtain ⟨q,rfl⟩:∃ q,r=q+1:=⟨r-1,by omega⟩
    have hq1:((q+1:Nat):Int)-1=(q:Int):=by omega
    have hqp:(0:Int)<((q+1:Nat):Int):=by omega
    have hqw:IntKind.i64.wrap (((q+1:Nat):Int)-1)=(q:Int):=by rw [hq1];exact zcq _ (by omega) (by omega)
    have hf:=zke q x x0
    have hpw:=zoo q
    have HF:=Z9 hf
    have HPW:=Z9 hpw
    have hq8:(q:Int)<4:=by omega
    have hq0:(0:Int)≤(q:Int):=by omega
    clear hf hpw
    go_wp2_with (at_builtin;go_loud (refine zao rfl _ _ 69 rfl base 5 1 1 (.int .u8 0) Tryz.underlying69 zec rfl (by decide) A' out.length c' (pu8s out) rfl HO.out [.int .u8 _] rfl (by simp [Value.oneCell']) rfl (by unfold maxLen;omega) (by omega) hws ?_);intro A2 c2 w2 hown2 hg2 hat2)
    go_roundg (gk-1)
    case measure=>omega
    case rel =>
     refine ⟨q,A2,c2,out ++ [x / 256 ^ q % 256],pre ++ [x / 256 ^ q % 256],by omega,by omega,by go_num,by rw [List.length_append];rfl,Z9 ?_,Z9 ?_,Z9 (zuo ?_),Z9 (HG.out.step hg2 hat2)⟩
     · rw [HE.out,List.append_assoc]
     · rw [HP.out,HF.out];simp
     · rw [← HPW.out]
       rw [show gk-1=q by omega] at hown2
       exact hown2
end
end Go.Proofs.YtbcgnddpkiemoaaGreat
namespace Go.Proofs.YtbcgnddpkiemoaaGreat
open Go.RowKit
section
variable {P:Program} {w:World}
end
end Go.Proofs.YtbcgnddpkiemoaaGreat
namespace Go.Proofs.YtbcgnddpkiemoaaGreat
attribute [local go_sem ↓] zab zac
attribute [local go_sem] zaa zad
open Go.RowKit
namespace Pk
structure Pkt where
 mark:Bool
 ty:Int
 sq:Int
 ti:Int
 so:Int
 mx:List Int
 ex:Bool
 ek:Int
 et:List Int
 pl:List Int
 pad:Int
def err (p:Pkt):Int :=
 if 127<p.ty∨p.pad<0∨255<p.pad then 3 else
 if p.ex=false∧(p.ek≠0∨0<p.et.length)∨p.et.length % 4≠0 then 2 else
 if 15<p.mx.length∨1020<p.et.length∨1500<p.pl.length then 4 else 0
def lead (p:Pkt):List Int:=[128+(p.mx.length:Int)+(if p.pad=0 then 0 else 32)+(if p.ex then 16 else 0),p.ty+if p.mark then 128 else 0]
def tail (p:Pkt):List Int:=(if p.ex then be 2 p.ek++be 2 ((p.et.length:Int) / 4)++p.et else [])++p.pl++(if p.pad=0 then [] else List.replicate (p.pad-1).toNat 0 ++ [p.pad])
def bytes (p:Pkt):List Int:=lead p++be 2 p.sq++be 4 p.ti++be 4 p.so++p.mx.flatMap (be 4)++tail p
def enc (p:Pkt):List Int×Int:=if err p=0 then (bytes p,0) else ([],err p)
theorem or_a:∀ m:Fin 16,bits BinOp.or IntKind.i64 128 (m.val:Int)=128+(m.val:Int):=by decide +kernel
theorem or_t:∀ t:Fin 128,bits BinOp.or IntKind.u8 (t.val:Int) 128=(t.val:Int)+128:=by decide +kernel
end Pk
theorem ziz (n:Int):IntKind.u8.wrap n=n % 256:=by simp [IntKind.wrap,IntKind.bits,IntKind.signed]
theorem zcw (n:Int):IntKind.u32.wrap n=n % 4294967296:=by simp [IntKind.wrap,IntKind.bits,IntKind.signed]
structure EState (w wx:World) (row:List Value) (A:Option Addr) (c:Nat) (out:List Int):Prop where
 hb:Blk wx w.heap.size 112 row.toArray
 hu:Bel w wx
 ho:Owns wx w.heap.size 5 1 A out.length c (pu8s out)
section
variable {w wx w':World} {row:List Value} {A A':Option Addr} {c c':Nat} {out l:List Int}
theorem EState.grown (h:EState w wx row A c out) {N:Nat} {news:List Value} (hN:N=(out++l).length) (hn:news=pu8s l) (qo:Owns w' w.heap.size 5 1 A' N c' (pu8s out++news)) (hg:wx.grownBy w' (ownB A)):EState w w' row A' c' (out++l):=by
 subst hN hn
 exact ⟨h.hb.grown hg (zkm h.ho h.hb (by decide)),Below.grown h.hu hg h.hu.size (fun g e=>(h.ho.block g e).1),by rw [zon];exact qo⟩
theorem EState.push (h:EState w wx row A c out) (o:Obj):EState w (wx.alloc o) row A c out:=⟨h.hb.push o,Bel.push h.hu o,h.ho.alloc o⟩
def EPut (w:World) (row:List Value) (out:List Int) (e:Ending) (w':World):Prop:=∃ (A':Option Addr) (c':Nat),e = .returned (.slice A' out.length c')∧Hid (EState w w' row A' c' out)
theorem EState.put (h:EState w wx row A c out) (x:Int) (n:Nat) (hn:n≤4) (x0:0≤x) (x1:x≤4294967295) (hl:out.length≤100000):Calls Tryz.prog 53 #[.slice A out.length c, .int .u32 x, .int .i64 n] wx (EPut w row (out++be n x)):=by
 refine (zuq wx w.heap.size A c out x n h.ho h.hu.size hn x0 x1 hl).mono ?_
 rintro e w1 ⟨A',c',rfl,ho,hG⟩
 exact ⟨A',c',rfl,Z9 ⟨hG.blk h.hb (zkm h.ho h.hb (by decide)),hG.bel h.ho h.hu (Nat.le_refl _),ho⟩⟩
end
theorem zgd (l:List Int) (k:Nat) (h:k<l.length):(l.take (k+1)).flatMap (be 4)=(l.take k).flatMap (be 4)++be 4 (l.getD k 0):=by
 rw [List.take_succ_eq_append_getElem h,List.flatMap_append,List.getD_eq_getElem?_getD,List.getElem?_eq_getElem h]
 simp
section
variable (mk:Bool) (ty sq ti so:Int) (Am:Option Addr) (mx:List Int) (cm:Nat) (ek:Int) (Ae:Option Addr) (et:List Int) (ce:Nat) (Ap:Option Addr) (pl:List Int) (cp:Nat) (pad:Int) (w:World)
theorem zrb (ex:Bool) (h:127<ty) (hm1:mx.length≤10000) (hm2:et.length≤10000) (hm3:pl.length≤10000):Calls Tryz.prog 52 #[.agg #[.bool mk, .int .u8 ty, .int .u16 sq, .int .u32 ti, .int .u32 so, .slice Am mx.length cm, .bool ex, .int .u16 ek, .slice Ae et.length ce, .slice Ap pl.length cp, .int .i64 pad]] w fun e w'=>e = .returned (.int .u8 3)∧Below w.heap.size w w':=by
 go_enter Tryz.func52,Tryz.ntmps52
 go_wp2_with fail
 go_ret
 exact ⟨rfl,Bel.push (Bel.refl w) _⟩
theorem zrc (ex:Bool) (t:ty≤127) (h:pad<0) (hm1:mx.length≤10000) (hm2:et.length≤10000) (hm3:pl.length≤10000):Calls Tryz.prog 52 #[.agg #[.bool mk, .int .u8 ty, .int .u16 sq, .int .u32 ti, .int .u32 so, .slice Am mx.length cm, .bool ex, .int .u16 ek, .slice Ae et.length ce, .slice Ap pl.length cp, .int .i64 pad]] w fun e w'=>e = .returned (.int .u8 3)∧Below w.heap.size w w':=by
 go_enter Tryz.func52,Tryz.ntmps52
 go_wp2_with fail
 go_ret
 exact ⟨rfl,Bel.push (Bel.refl w) _⟩
theorem zrd (ex:Bool) (t:ty≤127) (p0:0≤pad) (h:255<pad) (hm1:mx.length≤10000) (hm2:et.length≤10000) (hm3:pl.length≤10000):Calls Tryz.prog 52 #[.agg #[.bool mk, .int .u8 ty, .int .u16 sq, .int .u32 ti, .int .u32 so, .slice Am mx.length cm, .bool ex, .int .u16 ek, .slice Ae et.length ce, .slice Ap pl.length cp, .int .i64 pad]] w fun e w'=>e = .returned (.int .u8 3)∧Below w.heap.size w w':=by
 go_enter Tryz.func52,Tryz.ntmps52
 go_wp2_with fail
 go_ret
 exact ⟨rfl,Bel.push (Bel.refl w) _⟩
theorem zre (t:ty≤127) (p0:0≤pad) (p1:pad≤255) (h:ek≠0) (hm1:mx.length≤10000) (hm2:et.length≤10000) (hm3:pl.length≤10000):Calls Tryz.prog 52 #[.agg #[.bool mk, .int .u8 ty, .int .u16 sq, .int .u32 ti, .int .u32 so, .slice Am mx.length cm, .bool false, .int .u16 ek, .slice Ae et.length ce, .slice Ap pl.length cp, .int .i64 pad]] w fun e w'=>e = .returned (.int .u8 2)∧Below w.heap.size w w':=by
 have hb:(ek != 0)=true:=bne_iff_ne.2 h
 clear h
 go_enter Tryz.func52,Tryz.ntmps52
 go_wp2_with fail
 go_ret
 exact ⟨rfl,Bel.push (Bel.refl w) _⟩
theorem zrf (t:ty≤127) (p0:0≤pad) (p1:pad≤255) (h:ek=0) (h2:0<et.length) (hm1:mx.length≤10000) (hm2:et.length≤10000) (hm3:pl.length≤10000):Calls Tryz.prog 52 #[.agg #[.bool mk, .int .u8 ty, .int .u16 sq, .int .u32 ti, .int .u32 so, .slice Am mx.length cm, .bool false, .int .u16 ek, .slice Ae et.length ce, .slice Ap pl.length cp, .int .i64 pad]] w fun e w'=>e = .returned (.int .u8 2)∧Below w.heap.size w w':=by
 have hb:(ek != 0)=false:=by rw [h];rfl
 have hl:(0:Int)<(et.length:Int):=by omega
 have hl3:¬et.length=0:=by omega
 have hl4:¬et=[]:=by intro h5;rw [h5] at hl3;exact hl3 rfl
 clear h
 go_enter Tryz.func52,Tryz.ntmps52
 go_wp2_with fail
 go_ret
 exact ⟨rfl,Bel.push (Bel.refl w) _⟩
theorem zrg (t:ty≤127) (p0:0≤pad) (p1:pad≤255) (h4:et.length % 4≠0) (hm1:mx.length≤10000) (hm2:et.length≤10000) (hm3:pl.length≤10000):Calls Tryz.prog 52 #[.agg #[.bool mk, .int .u8 ty, .int .u16 sq, .int .u32 ti, .int .u32 so, .slice Am mx.length cm, .bool true, .int .u16 ek, .slice Ae et.length ce, .slice Ap pl.length cp, .int .i64 pad]] w fun e w'=>e = .returned (.int .u8 2)∧Below w.heap.size w w':=by
 have m4:((et.length:Int).tmod 4 != 0)=true:=by have:=Int.tmod_eq_emod_of_nonneg (a:=(et.length:Int)) (by omega) (b:=4);rw [this];rw [bne_iff_ne];omega
 have m5:((et.length:Int) % 4 != 0)=true:=by rw [bne_iff_ne];omega
 clear h4
 go_enter Tryz.func52,Tryz.ntmps52
 go_wp2_with fail
 go_ret
 exact ⟨rfl,Bel.push (Bel.refl w) _⟩
theorem zrh (t:ty≤127) (p0:0≤pad) (p1:pad≤255) (h4:et.length % 4=0) (g:15<mx.length) (hm1:mx.length≤10000) (hm2:et.length≤10000) (hm3:pl.length≤10000):Calls Tryz.prog 52 #[.agg #[.bool mk, .int .u8 ty, .int .u16 sq, .int .u32 ti, .int .u32 so, .slice Am mx.length cm, .bool true, .int .u16 ek, .slice Ae et.length ce, .slice Ap pl.length cp, .int .i64 pad]] w fun e w'=>e = .returned (.int .u8 4)∧Below w.heap.size w w':=by
 have v1:(15:Int)<(mx.length:Int):=by omega
 have m4:((et.length:Int).tmod 4 != 0)=false:=by have:=Int.tmod_eq_emod_of_nonneg (a:=(et.length:Int)) (by omega) (b:=4);rw [this];simp;omega
 have m5:((et.length:Int) % 4 != 0)=false:=by simp;omega
 clear h4
 go_enter Tryz.func52,Tryz.ntmps52
 go_wp2_with fail
 go_ret
 exact ⟨rfl,Bel.push (Bel.refl w) _⟩
theorem zri (t:ty≤127) (p0:0≤pad) (p1:pad≤255) (h:ek=0) (h2:et.length=0) (g:15<mx.length) (hm1:mx.length≤10000) (hm2:et.length≤10000) (hm3:pl.length≤10000):Calls Tryz.prog 52 #[.agg #[.bool mk, .int .u8 ty, .int .u16 sq, .int .u32 ti, .int .u32 so, .slice Am mx.length cm, .bool false, .int .u16 ek, .slice Ae et.length ce, .slice Ap pl.length cp, .int .i64 pad]] w fun e w'=>e = .returned (.int .u8 4)∧Below w.heap.size w w':=by
 have hb:(ek != 0)=false:=by rw [h];rfl
 obtain rfl:=List.eq_nil_of_length_eq_zero h2
 clear h h2
 have v1:(15:Int)<(mx.length:Int):=by omega
 go_enter Tryz.func52,Tryz.ntmps52
 go_wp2_with fail
 go_ret
 exact ⟨rfl,Bel.push (Bel.refl w) _⟩
theorem zrj (t:ty≤127) (p0:0≤pad) (p1:pad≤255) (h4:et.length % 4=0) (g:mx.length≤15) (g2:1020<et.length) (hm1:mx.length≤10000) (hm2:et.length≤10000) (hm3:pl.length≤10000):Calls Tryz.prog 52 #[.agg #[.bool mk, .int .u8 ty, .int .u16 sq, .int .u32 ti, .int .u32 so, .slice Am mx.length cm, .bool true, .int .u16 ek, .slice Ae et.length ce, .slice Ap pl.length cp, .int .i64 pad]] w fun e w'=>e = .returned (.int .u8 4)∧Below w.heap.size w w':=by
 have v1:(mx.length:Int)≤15:=by omega
 have v2:(1020:Int)<(et.length:Int):=by omega
 have m4:((et.length:Int).tmod 4 != 0)=false:=by have:=Int.tmod_eq_emod_of_nonneg (a:=(et.length:Int)) (by omega) (b:=4);rw [this];simp;omega
 have m5:((et.length:Int) % 4 != 0)=false:=by simp;omega
 clear h4
 go_enter Tryz.func52,Tryz.ntmps52
 go_wp2_with fail
 go_ret
 exact ⟨rfl,Bel.push (Bel.refl w) _⟩
theorem zrk (t:ty≤127) (p0:0≤pad) (p1:pad≤255) (h4:et.length % 4=0) (g:mx.length≤15) (g2:et.length≤1020) (g3:1500<pl.length) (hm1:mx.length≤10000) (hm2:et.length≤10000) (hm3:pl.length≤10000):Calls Tryz.prog 52 #[.agg #[.bool mk, .int .u8 ty, .int .u16 sq, .int .u32 ti, .int .u32 so, .slice Am mx.length cm, .bool true, .int .u16 ek, .slice Ae et.length ce, .slice Ap pl.length cp, .int .i64 pad]] w fun e w'=>e = .returned (.int .u8 4)∧Below w.heap.size w w':=by
 have v1:(mx.length:Int)≤15:=by omega
 have v2:(et.length:Int)≤1020:=by omega
 have v3:(1500:Int)<(pl.length:Int):=by omega
 have m4:((et.length:Int).tmod 4 != 0)=false:=by have:=Int.tmod_eq_emod_of_nonneg (a:=(et.length:Int)) (by omega) (b:=4);rw [this];simp;omega
 have m5:((et.length:Int) % 4 != 0)=false:=by simp;omega
 clear h4
 go_enter Tryz.func52,Tryz.ntmps52
 go_wp2_with fail
 go_ret
 exact ⟨rfl,Bel.push (Bel.refl w) _⟩
theorem zrl (t:ty≤127) (p0:0≤pad) (p1:pad≤255) (h:ek=0) (h2:et.length=0) (g:mx.length≤15) (g2:et.length≤1020) (g3:1500<pl.length) (hm1:mx.length≤10000) (hm2:et.length≤10000) (hm3:pl.length≤10000):Calls Tryz.prog 52 #[.agg #[.bool mk, .int .u8 ty, .int .u16 sq, .int .u32 ti, .int .u32 so, .slice Am mx.length cm, .bool false, .int .u16 ek, .slice Ae et.length ce, .slice Ap pl.length cp, .int .i64 pad]] w fun e w'=>e = .returned (.int .u8 4)∧Below w.heap.size w w':=by
 have hb:(ek != 0)=false:=by rw [h];rfl
 obtain rfl:=List.eq_nil_of_length_eq_zero h2
 clear h h2
 have v1:(mx.length:Int)≤15:=by omega
 have v3:(1500:Int)<(pl.length:Int):=by omega
 go_enter Tryz.func52,Tryz.ntmps52
 go_wp2_with fail
 go_ret
 exact ⟨rfl,Bel.push (Bel.refl w) _⟩
theorem zrm (t:ty≤127) (p0:0≤pad) (p1:pad≤255) (h4:et.length % 4=0) (g:mx.length≤15) (g2:et.length≤1020) (g3:pl.length≤1500) (hm1:mx.length≤10000) (hm2:et.length≤10000) (hm3:pl.length≤10000):Calls Tryz.prog 52 #[.agg #[.bool mk, .int .u8 ty, .int .u16 sq, .int .u32 ti, .int .u32 so, .slice Am mx.length cm, .bool true, .int .u16 ek, .slice Ae et.length ce, .slice Ap pl.length cp, .int .i64 pad]] w fun e w'=>e = .returned (.int .u8 0)∧Below w.heap.size w w':=by
 have v1:(mx.length:Int)≤15:=by omega
 have v2:(et.length:Int)≤1020:=by omega
 have v3:(pl.length:Int)≤1500:=by omega
 have m4:((et.length:Int).tmod 4 != 0)=false:=by have:=Int.tmod_eq_emod_of_nonneg (a:=(et.length:Int)) (by omega) (b:=4);rw [this];simp;omega
 have m5:((et.length:Int) % 4 != 0)=false:=by simp;omega
 clear h4
 go_enter Tryz.func52,Tryz.ntmps52
 go_wp2_with fail
 go_ret
 exact ⟨rfl,Bel.push (Bel.refl w) _⟩
theorem zrn (t:ty≤127) (p0:0≤pad) (p1:pad≤255) (h:ek=0) (h2:et.length=0) (g:mx.length≤15) (g2:et.length≤1020) (g3:pl.length≤1500) (hm1:mx.length≤10000) (hm2:et.length≤10000) (hm3:pl.length≤10000):Calls Tryz.prog 52 #[.agg #[.bool mk, .int .u8 ty, .int .u16 sq, .int .u32 ti, .int .u32 so, .slice Am mx.length cm, .bool false, .int .u16 ek, .slice Ae et.length ce, .slice Ap pl.length cp, .int .i64 pad]] w fun e w'=>e = .returned (.int .u8 0)∧Below w.heap.size w w':=by
 have hb:(ek != 0)=false:=by rw [h];rfl
 obtain rfl:=List.eq_nil_of_length_eq_zero h2
 clear h h2
 have v1:(mx.length:Int)≤15:=by omega
 have v3:(pl.length:Int)≤1500:=by omega
 go_enter Tryz.func52,Tryz.ntmps52
 go_wp2_with fail
 go_ret
 exact ⟨rfl,Bel.push (Bel.refl w) _⟩
end
theorem zge (mk:Bool) (ty sq ti so:Int) (Am:Option Addr) (mx:List Int) (cm:Nat) (ek:Int) (Ae:Option Addr) (et:List Int) (ce:Nat) (Ap:Option Addr) (pl:List Int) (cp:Nat) (pad:Int) (w:World) (ex:Bool) (hm1:mx.length≤10000) (hm2:et.length≤10000) (hm3:pl.length≤10000):Calls Tryz.prog 52 #[.agg #[.bool mk, .int .u8 ty, .int .u16 sq, .int .u32 ti, .int .u32 so, .slice Am mx.length cm, .bool ex, .int .u16 ek, .slice Ae et.length ce, .slice Ap pl.length cp, .int .i64 pad]] w fun e w'=>e = .returned (.int .u8 (Pk.err ⟨mk,ty,sq,ti,so,mx,ex,ek,et,pl,pad⟩))∧Below w.heap.size w w':=by
 unfold Pk.err
 simp only
 by_cases c1:127<ty∨pad<0∨255<pad
 · rw [if_pos c1]
   by_cases h1:127<ty
   · exact zrb mk ty sq ti so Am mx cm ek Ae et ce Ap pl cp pad w ex h1 hm1 hm2 hm3
   by_cases h2:pad<0
   · exact zrc mk ty sq ti so Am mx cm ek Ae et ce Ap pl cp pad w ex (by omega) h2 hm1 hm2 hm3
   · exact zrd mk ty sq ti so Am mx cm ek Ae et ce Ap pl cp pad w ex (by omega) (by omega) (by omega) hm1 hm2 hm3
 rw [if_neg c1]
 cases ex
 · by_cases c2:ek≠0
   · rw [if_pos (.inl ⟨rfl, .inl c2⟩)]
     exact zre mk ty sq ti so Am mx cm ek Ae et ce Ap pl cp pad w (by omega) (by omega) (by omega) c2 hm1 hm2 hm3
   have c2':ek=0:=by simpa using c2
   by_cases c3:0<et.length
   · rw [if_pos (.inl ⟨rfl, .inr c3⟩)]
     exact zrf mk ty sq ti so Am mx cm ek Ae et ce Ap pl cp pad w (by omega) (by omega) (by omega) c2' c3 hm1 hm2 hm3
   rw [if_neg (by omega)]
   by_cases c4:15<mx.length
   · rw [if_pos (.inl c4)]
     exact zri mk ty sq ti so Am mx cm ek Ae et ce Ap pl cp pad w (by omega) (by omega) (by omega) c2' (by omega) c4 hm1 hm2 hm3
   by_cases c5:1500<pl.length
   · rw [if_pos (.inr (.inr c5))]
     exact zrl mk ty sq ti so Am mx cm ek Ae et ce Ap pl cp pad w (by omega) (by omega) (by omega) c2' (by omega) (by omega) (by omega) c5 hm1 hm2 hm3
   · rw [if_neg (by omega)]
     exact zrn mk ty sq ti so Am mx cm ek Ae et ce Ap pl cp pad w (by omega) (by omega) (by omega) c2' (by omega) (by omega) (by omega) (by omega) hm1 hm2 hm3
 · by_cases c2:et.length % 4≠0
   · rw [if_pos (.inr c2)]
     exact zrg mk ty sq ti so Am mx cm ek Ae et ce Ap pl cp pad w (by omega) (by omega) (by omega) c2 hm1 hm2 hm3
   rw [if_neg (by simp at c2 ⊢; omega)]
   by_cases c4:15<mx.length
   · rw [if_pos (.inl c4)]
     exact zrh mk ty sq ti so Am mx cm ek Ae et ce Ap pl cp pad w (by omega) (by omega) (by omega) (by omega) c4 hm1 hm2 hm3
   by_cases c5:1020<et.length
   · rw [if_pos (.inr (.inl c5))]
     exact zrj mk ty sq ti so Am mx cm ek Ae et ce Ap pl cp pad w (by omega) (by omega) (by omega) (by omega) (by omega) c5 hm1 hm2 hm3
   by_cases c6:1500<pl.length
   · rw [if_pos (.inr (.inr c6))]
     exact zrk mk ty sq ti so Am mx cm ek Ae et ce Ap pl cp pad w (by omega) (by omega) (by omega) (by omega) (by omega) (by omega) c6 hm1 hm2 hm3
   · rw [if_neg (by omega)]
     exact zrm mk ty sq ti so Am mx cm ek Ae et ce Ap pl cp pad w (by omega) (by omega) (by omega) (by omega) (by omega) (by omega) (by omega) hm1 hm2 hm3
def PEncR (R:List Int×Int) (w:World) (e:Ending) (w':World):Prop :=
 ∃ (A:Option Addr) (c:Nat),e = .returned (.tuple #[.slice A R.1.length c, .int .u8 R.2])∧IntsNew w.heap.size w' .u8 A R.1∧Below w.heap.size w w'
def PEncRC (R:List Int×Int) (w:World) (e:Ending) (w':World):Prop :=
 ∃ (A:Option Addr) (c:Nat),e = .returned (.tuple #[.slice A R.1.length c, .int .u8 R.2])∧R.1.length≤c∧IntsNew w.heap.size w' .u8 A R.1∧Below w.heap.size w w'
theorem Owns.lit (w:World) (base:Nat) (e:TypeId) (cs:List Value) (n:Nat) (hb:base≤w.heap.size) (hm:n≤maxLen) (hn:cs.length=n):Owns (w.alloc (.cells cs.toArray e)) base e 1 (some ⟨w.heap.size,0,none⟩) n n cs:=by
 have:=World.ownsRow_lit (base:=base) (e:=e) (size:=1) w cs.toArray n hb hm (by simpa using hn)
 simpa [Owns] using this
section
variable (ty sq ti so:Int) (Am:Option Addr) (mx:List Int) (cm:Nat) (ek:Int) (Ae:Option Addr) (et:List Int) (ce:Nat) (Ap:Option Addr) (pl:List Int) (cp:Nat) (pad:Int) (w:World)
theorem zur (ty0:0≤ty) (ty1:ty≤127) (sq0:0≤sq) (sq1:sq≤65535) (ti0:0≤ti) (ti1:ti≤4294967295) (so0:0≤so) (so1:so≤4294967295) (ek0:0≤ek) (ek1:ek≤65535) (hpad:pad=0) (lm:mx.length≤15) (le:et.length≤1020) (le4:et.length % 4=0) (lp:pl.length≤1500) (hmx:Within 0 4294967295 mx) (hpb:0≤pad∧pad≤255) (hek:ek=0∧et.length=0) (Im:IntsAt w w.heap.size .u32 Am mx) (Ie:IntsAt w w.heap.size .u8 Ae et) (Ip:IntsAt w w.heap.size .u8 Ap pl):Calls Tryz.prog 24 #[.agg #[.bool false, .int .u8 ty, .int .u16 sq, .int .u32 ti, .int .u32 so, .slice Am mx.length cm, .bool false, .int .u16 ek, .slice Ae et.length ce, .slice Ap pl.length cp, .int .i64 pad]] w (PEncRC (Pk.bytes ⟨false,ty,sq,ti,so,mx,false,ek,et,pl,pad⟩,0) w):=by
 have kc:=fun W=>zge false ty sq ti so Am mx cm ek Ae et ce Ap pl cp pad W false (by omega) (by omega) (by omega)
 have herr:Pk.err ⟨false,ty,sq,ti,so,mx,false,ek,et,pl,pad⟩=0:=by
  unfold Pk.err
  simp only
  rw [if_neg (by omega),if_neg (by intro h;rcases h with ⟨h1,h2⟩|h3<;>first|(cases h1;done)|omega),if_neg (by omega)]
 rw [herr] at kc
 clear herr
 have KC:=Z9 kc
 have HM:=Z9 hmx
 have IM:=Z9 Im
 have IE:=Z9 Ie
 have IP:=Z9 Ip
 clear kc hmx Im Ie Ip hek
 obtain ⟨m,hm⟩:∃ m:Nat,m=mx.length:=⟨_,rfl⟩
 have hor:=Pk.or_a ⟨mx.length,by omega⟩
 have hw0:IntKind.u8.wrap (128+(mx.length:Int))=128+(mx.length:Int):=by rw [ziz];omega
 simp only at hor
 clear hm
 have hp0:(pad != 0)=false:=by rw [hpad];rfl
 have HPAD:=Z9 hpad
 clear hpad
 have hsw:sq % 4294967296=sq:=by omega
 have hsw2:IntKind.u32.wrap sq=sq:=by rw [zcw];omega
 have hew:IntKind.u32.wrap ek=ek:=by rw [zcw];omega
 go_enter Tryz.func24,Tryz.ntmps24
 go_wp2_with fail
 refine (KC.out _).mono ?_
 rintro e w1 ⟨rfl,hb1⟩
 have B1:=Z9 ((Blk.new w 112 #[.bool false, .int .u8 ty, .int .u16 sq, .int .u32 ti, .int .u32 so, .slice Am mx.length cm, .bool false, .int .u16 ek, .slice Ae et.length ce, .slice Ap pl.length cp, .int .i64 pad]).later hb1)
 have U1:=Z9 (((Bel.refl w).push (.cells #[.bool false, .int .u8 ty, .int .u16 sq, .int .u32 ti, .int .u32 so, .slice Am mx.length cm, .bool false, .int .u16 ek, .slice Ae et.length ce, .slice Ap pl.length cp, .int .i64 pad] 112)).later hb1)
 clear hb1 KC
 have hlt0:=B1.out.lt
 have c0:=B1.out.at 0 _ rfl
 have c1:=B1.out.at 1 _ rfl
 have c2:=B1.out.at 2 _ rfl
 have c3:=B1.out.at 3 _ rfl
 have c4:=B1.out.at 4 _ rfl
 have c5:=B1.out.at 5 _ rfl
 have c6:=B1.out.at 6 _ rfl
 have c7:=B1.out.at 7 _ rfl
 have c8:=B1.out.at 8 _ rfl
 have c9:=B1.out.at 9 _ rfl
 have c10:=B1.out.at 10 _ rfl
 go_wp2_with fail
 clear c0 c1 c2 c3 c4 c5 c6 c7 c8 c9 c10
 have D:Hid (EState w (w1.alloc (.cells #[.int .u8 (128+(mx.length:Int)), .int .u8 ty] 5)) [.bool false, .int .u8 ty, .int .u16 sq, .int .u32 ti, .int .u32 so, .slice Am mx.length cm, .bool false, .int .u16 ek, .slice Ae et.length ce, .slice Ap pl.length cp, .int .i64 pad] (some ⟨w1.heap.size,0,none⟩) 2 [(128+(mx.length:Int)),ty]):=Z9 ⟨B1.out.push _,Bel.push U1.out _,Owns.lit w1 w.heap.size 5 (pu8s [(128+(mx.length:Int)),ty]) 2 U1.out.size (by unfold maxLen;omega) rfl⟩
 obtain ⟨W0,hW0⟩:∃ W,W=w1.alloc (.cells #[.int .u8 (128+(mx.length:Int)), .int .u8 ty] 5):=⟨_,rfl⟩
 rw [← hW0] at D ⊢
 obtain ⟨o0,ho0⟩:∃ o:List Int,o=[(128+(mx.length:Int)),ty]:=⟨_,rfl⟩
 have hq0:(2:Nat)=o0.length:=by rw [ho0];rfl
 rw [← ho0] at D
 have HE0:=Z9 ho0
 have hl0:o0.length≤10:=by rw [← hq0];omega
 clear hW0 ho0 B1 U1
 rw [show Value.slice (some ⟨w1.heap.size,0,none⟩) 2 2=Value.slice (some ⟨w1.heap.size,0,none⟩) o0.length 2 by rw [← hq0]]
 clear hq0
 refine (D.out.put sq 2 (by omega) (by omega) (by omega) (by omega)).mono ?_
 rintro e w11 ⟨A1,c1',rfl,D'⟩
 clear D
 have D:=D'
 clear D'
 generalize hO1:(o0++be 2 (sq))=o1 at *
 have hl1:o1.length≤o0.length+2:=by rw [← hO1,List.length_append,zbd];omega
 have HE1:=Z9 hO1
 clear hO1
 have c0:=D.out.hb.at 0 _ rfl
 have c1:=D.out.hb.at 1 _ rfl
 have c2:=D.out.hb.at 2 _ rfl
 have c3:=D.out.hb.at 3 _ rfl
 have c4:=D.out.hb.at 4 _ rfl
 have c5:=D.out.hb.at 5 _ rfl
 have c6:=D.out.hb.at 6 _ rfl
 have c7:=D.out.hb.at 7 _ rfl
 have c8:=D.out.hb.at 8 _ rfl
 have c9:=D.out.hb.at 9 _ rfl
 have c10:=D.out.hb.at 10 _ rfl
 go_wp2_with fail
 clear c0 c1 c2 c3 c4 c5 c6 c7 c8 c9 c10
 refine (D.out.put ti 4 (by omega) (by omega) (by omega) (by omega)).mono ?_
 rintro e w12 ⟨A2,c2',rfl,D'⟩
 clear D
 have D:=D'
 clear D'
 generalize hO2:(o1++be 4 (ti))=o2 at *
 have hl2:o2.length≤o1.length+4:=by rw [← hO2,List.length_append,zbd];omega
 have HE2:=Z9 hO2
 clear hO2
 have c0:=D.out.hb.at 0 _ rfl
 have c1:=D.out.hb.at 1 _ rfl
 have c2:=D.out.hb.at 2 _ rfl
 have c3:=D.out.hb.at 3 _ rfl
 have c4:=D.out.hb.at 4 _ rfl
 have c5:=D.out.hb.at 5 _ rfl
 have c6:=D.out.hb.at 6 _ rfl
 have c7:=D.out.hb.at 7 _ rfl
 have c8:=D.out.hb.at 8 _ rfl
 have c9:=D.out.hb.at 9 _ rfl
 have c10:=D.out.hb.at 10 _ rfl
 go_wp2_with fail
 clear c0 c1 c2 c3 c4 c5 c6 c7 c8 c9 c10
 refine (D.out.put so 4 (by omega) (by omega) (by omega) (by omega)).mono ?_
 rintro e w13 ⟨A3,c3',rfl,D'⟩
 clear D
 have D:=D'
 clear D'
 generalize hO3:(o2++be 4 (so))=o3 at *
 have hl3:o3.length≤o2.length+4:=by rw [← hO3,List.length_append,zbd];omega
 have HE3:=Z9 hO3
 clear hO3
 have c0:=D.out.hb.at 0 _ rfl
 have c1:=D.out.hb.at 1 _ rfl
 have c2:=D.out.hb.at 2 _ rfl
 have c3:=D.out.hb.at 3 _ rfl
 have c4:=D.out.hb.at 4 _ rfl
 have c5:=D.out.hb.at 5 _ rfl
 have c6:=D.out.hb.at 6 _ rfl
 have c7:=D.out.hb.at 7 _ rfl
 have c8:=D.out.hb.at 8 _ rfl
 have c9:=D.out.hb.at 9 _ rfl
 have c10:=D.out.hb.at 10 _ rfl
 go_wp2_with fail
 clear c0 c1 c2 c3 c4 c5 c6 c7 c8 c9 c10
 go_loopg [7,54] mx.length (fun gk s7 s54 wr => ∃ (k:Nat) (A':Option Addr) (c':Nat) (out:List Int),gk+k=mx.length∧s54 = .int .i64 k∧s7 = .slice A' out.length c'∧Hid (out=o3++(mx.take k).flatMap (be 4))∧Hid (out.length≤20+4*k)∧Hid (EState w wr [.bool false, .int .u8 ty, .int .u16 sq, .int .u32 ti, .int .u32 so, .slice Am mx.length cm, .bool false, .int .u16 ek, .slice Ae et.length ce, .slice Ap pl.length cp, .int .i64 pad] A' c' out))
 case atStart=>exact ⟨0,A3,c3',o3,rfl,rfl,rfl,Z9 (by simp),Z9 (by omega),D⟩
 case round =>
  clear D
  obtain ⟨k,A',c',out,hg,rfl,rfl,HO,HL,D⟩:=hrel
  have hln:=HL.out
  by_cases hlt:k<mx.length
  · have hi0:(0:Int)≤(k:Int):=by omega
    have hi1:(k:Int)<(mx.length:Int):=by omega
    obtain ⟨b,off,rfl,hbB,qc⟩:=IM.out (by omega)
    have q1:=(D.out.hu.cell (p:=⟨b,off+k,none⟩) hbB).trans (qc k hlt)
    obtain ⟨z0,z1⟩:=HM.out.at hlt
    have hst:=zgd mx k hlt
    generalize mx.getD k 0=z at *
    have HST:=Z9 hst
    clear hst qc
    go_wp2_with fail
    refine (D.out.put z 4 (by omega) z0 z1 (by omega)).mono ?_
    rintro e w9 ⟨A9,c9',rfl,D'⟩
    go_wp2_with fail
    go_roundg (gk-1)
    case measure=>omega
    case rel=>exact ⟨k+1,A9,c9',out++be 4 z,by omega,by go_num,by first|rfl|rw [List.length_append,zbd],Z9 (by rw [HST.out,HO.out,List.append_assoc]),Z9 (by rw [List.length_append,zbd];omega),D'⟩
  · obtain rfl:k=mx.length:=by omega
    have hi1:(mx.length:Int)≤(mx.length:Int):=Int.le_refl _
    have hx:out=o3++mx.flatMap (be 4):=by rw [HO.out,List.take_length]
    have HX:=Z9 hx
    clear hx HO HL
    have c0:=D.out.hb.at 0 _ rfl
    have c1:=D.out.hb.at 1 _ rfl
    have c2:=D.out.hb.at 2 _ rfl
    have c3:=D.out.hb.at 3 _ rfl
    have c4:=D.out.hb.at 4 _ rfl
    have c5:=D.out.hb.at 5 _ rfl
    have c6:=D.out.hb.at 6 _ rfl
    have c7:=D.out.hb.at 7 _ rfl
    have c8:=D.out.hb.at 8 _ rfl
    have c9:=D.out.hb.at 9 _ rfl
    have c10:=D.out.hb.at 10 _ rfl
    have c0:=D.out.hb.at 0 _ rfl
    have c1:=D.out.hb.at 1 _ rfl
    have c2:=D.out.hb.at 2 _ rfl
    have c3:=D.out.hb.at 3 _ rfl
    have c4:=D.out.hb.at 4 _ rfl
    have c5:=D.out.hb.at 5 _ rfl
    have c6:=D.out.hb.at 6 _ rfl
    have c7:=D.out.hb.at 7 _ rfl
    have c8:=D.out.hb.at 8 _ rfl
    have c9:=D.out.hb.at 9 _ rfl
    have c10:=D.out.hb.at 10 _ rfl
    have hws:=D.out.hu.size
    go_upto_region 26 with (at_builtin;go_loud (refine zbj rfl (.tmp 80) (.tmp 82) 69 rfl w.heap.size 5 1 (.int .u8 0) Tryz.underlying69 zec rfl A' out.length c' (pu8s out) rfl D.out.ho _ .u8 Ap cp pl rfl (IP.out.below D.out.hu) (by unfold maxLen;omega) (by omega) hws (out.length+pl.length) rfl ?_);intro A21 c21' w121 qo hgr hat)
    clear c0 c1 c2 c3 c4 c5 c6 c7 c8 c9 c10 hws
    have D':=Z9 (D.out.grown (l:=pl) (by rw [List.length_append]) rfl qo hgr)
    clear D qo hgr hat
    have D:=D'
    clear D'
    obtain ⟨o21,hO21⟩:∃ o,o=out++pl:=⟨_,rfl⟩
    rw [← hO21] at D
    have HE21:=Z9 hO21
    have hq21:o21.length=out.length+(pl).length:=by rw [hO21,List.length_append]
    have HL21:=Z9 hq21
    have hl21:o21.length≤out.length+(pl).length:=by omega
    clear hq21 hO21
    rw [show out.length+pl.length=o21.length from HL21.out.symm]
    have hfin:o21=Pk.bytes ⟨false,ty,sq,ti,so,mx,false,ek,et,pl,pad⟩:=by
     unfold Pk.bytes Pk.lead Pk.tail
     rw [HE21.out,HX.out,← HE3.out,← HE2.out,← HE1.out,HE0.out]
     rw [HPAD.out]
     simp [List.append_assoc]
    have HFIN:=Z9 hfin
    clear hfin
    have c0:=D.out.hb.at 0 _ rfl
    have c1:=D.out.hb.at 1 _ rfl
    have c2:=D.out.hb.at 2 _ rfl
    have c3:=D.out.hb.at 3 _ rfl
    have c4:=D.out.hb.at 4 _ rfl
    have c5:=D.out.hb.at 5 _ rfl
    have c6:=D.out.hb.at 6 _ rfl
    have c7:=D.out.hb.at 7 _ rfl
    have c8:=D.out.hb.at 8 _ rfl
    have c9:=D.out.hb.at 9 _ rfl
    have c10:=D.out.hb.at 10 _ rfl
    go_wp2_with fail
    go_ret2
    rw [← HFIN.out]
    exact ⟨A21,c21',rfl,D.out.ho.cap,IntsNew.of_own D.out.ho (Nat.le_refl _),D.out.hu⟩
end
section
variable (ty sq ti so:Int) (Am:Option Addr) (mx:List Int) (cm:Nat) (ek:Int) (Ae:Option Addr) (et:List Int) (ce:Nat) (Ap:Option Addr) (pl:List Int) (cp:Nat) (pad:Int) (w:World)
theorem zus (ty0:0≤ty) (ty1:ty≤127) (sq0:0≤sq) (sq1:sq≤65535) (ti0:0≤ti) (ti1:ti≤4294967295) (so0:0≤so) (so1:so≤4294967295) (ek0:0≤ek) (ek1:ek≤65535) (hpad:pad=0) (lm:mx.length≤15) (le:et.length≤1020) (le4:et.length % 4=0) (lp:pl.length≤1500) (hmx:Within 0 4294967295 mx) (hpb:0≤pad∧pad≤255) (hek:ek=0∧et.length=0) (Im:IntsAt w w.heap.size .u32 Am mx) (Ie:IntsAt w w.heap.size .u8 Ae et) (Ip:IntsAt w w.heap.size .u8 Ap pl):Calls Tryz.prog 24 #[.agg #[.bool true, .int .u8 ty, .int .u16 sq, .int .u32 ti, .int .u32 so, .slice Am mx.length cm, .bool false, .int .u16 ek, .slice Ae et.length ce, .slice Ap pl.length cp, .int .i64 pad]] w (PEncRC (Pk.bytes ⟨true,ty,sq,ti,so,mx,false,ek,et,pl,pad⟩,0) w):=by
 have kc:=fun W=>zge true ty sq ti so Am mx cm ek Ae et ce Ap pl cp pad W false (by omega) (by omega) (by omega)
 have herr:Pk.err ⟨true,ty,sq,ti,so,mx,false,ek,et,pl,pad⟩=0:=by
  unfold Pk.err
  simp only
  rw [if_neg (by omega),if_neg (by intro h;rcases h with ⟨h1,h2⟩|h3<;>first|(cases h1;done)|omega),if_neg (by omega)]
 rw [herr] at kc
 clear herr
 have KC:=Z9 kc
 have HM:=Z9 hmx
 have IM:=Z9 Im
 have IE:=Z9 Ie
 have IP:=Z9 Ip
 clear kc hmx Im Ie Ip hek
 obtain ⟨m,hm⟩:∃ m:Nat,m=mx.length:=⟨_,rfl⟩
 have hor:=Pk.or_a ⟨mx.length,by omega⟩
 have hw0:IntKind.u8.wrap (128+(mx.length:Int))=128+(mx.length:Int):=by rw [ziz];omega
 simp only at hor
 clear hm
 have hp0:(pad != 0)=false:=by rw [hpad];rfl
 have HPAD:=Z9 hpad
 clear hpad
 have hor3:bits BinOp.or IntKind.u8 ty 128=ty+128:=by
  obtain ⟨n,rfl⟩:=Int.eq_ofNat_of_zero_le ty0
  exact Pk.or_t ⟨n,by omega⟩
 have hsw:sq % 4294967296=sq:=by omega
 have hsw2:IntKind.u32.wrap sq=sq:=by rw [zcw];omega
 have hew:IntKind.u32.wrap ek=ek:=by rw [zcw];omega
 go_enter Tryz.func24,Tryz.ntmps24
 go_wp2_with fail
 refine (KC.out _).mono ?_
 rintro e w1 ⟨rfl,hb1⟩
 have B1:=Z9 ((Blk.new w 112 #[.bool true, .int .u8 ty, .int .u16 sq, .int .u32 ti, .int .u32 so, .slice Am mx.length cm, .bool false, .int .u16 ek, .slice Ae et.length ce, .slice Ap pl.length cp, .int .i64 pad]).later hb1)
 have U1:=Z9 (((Bel.refl w).push (.cells #[.bool true, .int .u8 ty, .int .u16 sq, .int .u32 ti, .int .u32 so, .slice Am mx.length cm, .bool false, .int .u16 ek, .slice Ae et.length ce, .slice Ap pl.length cp, .int .i64 pad] 112)).later hb1)
 clear hb1 KC
 have hlt0:=B1.out.lt
 have c0:=B1.out.at 0 _ rfl
 have c1:=B1.out.at 1 _ rfl
 have c2:=B1.out.at 2 _ rfl
 have c3:=B1.out.at 3 _ rfl
 have c4:=B1.out.at 4 _ rfl
 have c5:=B1.out.at 5 _ rfl
 have c6:=B1.out.at 6 _ rfl
 have c7:=B1.out.at 7 _ rfl
 have c8:=B1.out.at 8 _ rfl
 have c9:=B1.out.at 9 _ rfl
 have c10:=B1.out.at 10 _ rfl
 go_wp2_with fail
 clear c0 c1 c2 c3 c4 c5 c6 c7 c8 c9 c10
 have D:Hid (EState w (w1.alloc (.cells #[.int .u8 (128+(mx.length:Int)), .int .u8 (ty+128)] 5)) [.bool true, .int .u8 ty, .int .u16 sq, .int .u32 ti, .int .u32 so, .slice Am mx.length cm, .bool false, .int .u16 ek, .slice Ae et.length ce, .slice Ap pl.length cp, .int .i64 pad] (some ⟨w1.heap.size,0,none⟩) 2 [(128+(mx.length:Int)),(ty+128)]):=Z9 ⟨B1.out.push _,Bel.push U1.out _,Owns.lit w1 w.heap.size 5 (pu8s [(128+(mx.length:Int)),(ty+128)]) 2 U1.out.size (by unfold maxLen;omega) rfl⟩
 obtain ⟨W0,hW0⟩:∃ W,W=w1.alloc (.cells #[.int .u8 (128+(mx.length:Int)), .int .u8 (ty+128)] 5):=⟨_,rfl⟩
 rw [← hW0] at D ⊢
 obtain ⟨o0,ho0⟩:∃ o:List Int,o=[(128+(mx.length:Int)),(ty+128)]:=⟨_,rfl⟩
 have hq0:(2:Nat)=o0.length:=by rw [ho0];rfl
 rw [← ho0] at D
 have HE0:=Z9 ho0
 have hl0:o0.length≤10:=by rw [← hq0];omega
 clear hW0 ho0 B1 U1
 rw [show Value.slice (some ⟨w1.heap.size,0,none⟩) 2 2=Value.slice (some ⟨w1.heap.size,0,none⟩) o0.length 2 by rw [← hq0]]
 clear hq0
 refine (D.out.put sq 2 (by omega) (by omega) (by omega) (by omega)).mono ?_
 rintro e w11 ⟨A1,c1',rfl,D'⟩
 clear D
 have D:=D'
 clear D'
 generalize hO1:(o0++be 2 (sq))=o1 at *
 have hl1:o1.length≤o0.length+2:=by rw [← hO1,List.length_append,zbd];omega
 have HE1:=Z9 hO1
 clear hO1
 have c0:=D.out.hb.at 0 _ rfl
 have c1:=D.out.hb.at 1 _ rfl
 have c2:=D.out.hb.at 2 _ rfl
 have c3:=D.out.hb.at 3 _ rfl
 have c4:=D.out.hb.at 4 _ rfl
 have c5:=D.out.hb.at 5 _ rfl
 have c6:=D.out.hb.at 6 _ rfl
 have c7:=D.out.hb.at 7 _ rfl
 have c8:=D.out.hb.at 8 _ rfl
 have c9:=D.out.hb.at 9 _ rfl
 have c10:=D.out.hb.at 10 _ rfl
 go_wp2_with fail
 clear c0 c1 c2 c3 c4 c5 c6 c7 c8 c9 c10
 refine (D.out.put ti 4 (by omega) (by omega) (by omega) (by omega)).mono ?_
 rintro e w12 ⟨A2,c2',rfl,D'⟩
 clear D
 have D:=D'
 clear D'
 generalize hO2:(o1++be 4 (ti))=o2 at *
 have hl2:o2.length≤o1.length+4:=by rw [← hO2,List.length_append,zbd];omega
 have HE2:=Z9 hO2
 clear hO2
 have c0:=D.out.hb.at 0 _ rfl
 have c1:=D.out.hb.at 1 _ rfl
 have c2:=D.out.hb.at 2 _ rfl
 have c3:=D.out.hb.at 3 _ rfl
 have c4:=D.out.hb.at 4 _ rfl
 have c5:=D.out.hb.at 5 _ rfl
 have c6:=D.out.hb.at 6 _ rfl
 have c7:=D.out.hb.at 7 _ rfl
 have c8:=D.out.hb.at 8 _ rfl
 have c9:=D.out.hb.at 9 _ rfl
 have c10:=D.out.hb.at 10 _ rfl
 go_wp2_with fail
 clear c0 c1 c2 c3 c4 c5 c6 c7 c8 c9 c10
 refine (D.out.put so 4 (by omega) (by omega) (by omega) (by omega)).mono ?_
 rintro e w13 ⟨A3,c3',rfl,D'⟩
 clear D
 have D:=D'
 clear D'
 generalize hO3:(o2++be 4 (so))=o3 at *
 have hl3:o3.length≤o2.length+4:=by rw [← hO3,List.length_append,zbd];omega
 have HE3:=Z9 hO3
 clear hO3
 have c0:=D.out.hb.at 0 _ rfl
 have c1:=D.out.hb.at 1 _ rfl
 have c2:=D.out.hb.at 2 _ rfl
 have c3:=D.out.hb.at 3 _ rfl
 have c4:=D.out.hb.at 4 _ rfl
 have c5:=D.out.hb.at 5 _ rfl
 have c6:=D.out.hb.at 6 _ rfl
 have c7:=D.out.hb.at 7 _ rfl
 have c8:=D.out.hb.at 8 _ rfl
 have c9:=D.out.hb.at 9 _ rfl
 have c10:=D.out.hb.at 10 _ rfl
 go_wp2_with fail
 clear c0 c1 c2 c3 c4 c5 c6 c7 c8 c9 c10
 go_loopg [7,54] mx.length (fun gk s7 s54 wr => ∃ (k:Nat) (A':Option Addr) (c':Nat) (out:List Int),gk+k=mx.length∧s54 = .int .i64 k∧s7 = .slice A' out.length c'∧Hid (out=o3++(mx.take k).flatMap (be 4))∧Hid (out.length≤20+4*k)∧Hid (EState w wr [.bool true, .int .u8 ty, .int .u16 sq, .int .u32 ti, .int .u32 so, .slice Am mx.length cm, .bool false, .int .u16 ek, .slice Ae et.length ce, .slice Ap pl.length cp, .int .i64 pad] A' c' out))
 case atStart=>exact ⟨0,A3,c3',o3,rfl,rfl,rfl,Z9 (by simp),Z9 (by omega),D⟩
 case round =>
  clear D
  obtain ⟨k,A',c',out,hg,rfl,rfl,HO,HL,D⟩:=hrel
  have hln:=HL.out
  by_cases hlt:k<mx.length
  · have hi0:(0:Int)≤(k:Int):=by omega
    have hi1:(k:Int)<(mx.length:Int):=by omega
    obtain ⟨b,off,rfl,hbB,qc⟩:=IM.out (by omega)
    have q1:=(D.out.hu.cell (p:=⟨b,off+k,none⟩) hbB).trans (qc k hlt)
    obtain ⟨z0,z1⟩:=HM.out.at hlt
    have hst:=zgd mx k hlt
    generalize mx.getD k 0=z at *
    have HST:=Z9 hst
    clear hst qc
    go_wp2_with fail
    refine (D.out.put z 4 (by omega) z0 z1 (by omega)).mono ?_
    rintro e w9 ⟨A9,c9',rfl,D'⟩
    go_wp2_with fail
    go_roundg (gk-1)
    case measure=>omega
    case rel=>exact ⟨k+1,A9,c9',out++be 4 z,by omega,by go_num,by first|rfl|rw [List.length_append,zbd],Z9 (by rw [HST.out,HO.out,List.append_assoc]),Z9 (by rw [List.length_append,zbd];omega),D'⟩
  · obtain rfl:k=mx.length:=by omega
    have hi1:(mx.length:Int)≤(mx.length:Int):=Int.le_refl _
    have hx:out=o3++mx.flatMap (be 4):=by rw [HO.out,List.take_length]
    have HX:=Z9 hx
    clear hx HO HL
    have c0:=D.out.hb.at 0 _ rfl
    have c1:=D.out.hb.at 1 _ rfl
    have c2:=D.out.hb.at 2 _ rfl
    have c3:=D.out.hb.at 3 _ rfl
    have c4:=D.out.hb.at 4 _ rfl
    have c5:=D.out.hb.at 5 _ rfl
    have c6:=D.out.hb.at 6 _ rfl
    have c7:=D.out.hb.at 7 _ rfl
    have c8:=D.out.hb.at 8 _ rfl
    have c9:=D.out.hb.at 9 _ rfl
    have c10:=D.out.hb.at 10 _ rfl
    have c0:=D.out.hb.at 0 _ rfl
    have c1:=D.out.hb.at 1 _ rfl
    have c2:=D.out.hb.at 2 _ rfl
    have c3:=D.out.hb.at 3 _ rfl
    have c4:=D.out.hb.at 4 _ rfl
    have c5:=D.out.hb.at 5 _ rfl
    have c6:=D.out.hb.at 6 _ rfl
    have c7:=D.out.hb.at 7 _ rfl
    have c8:=D.out.hb.at 8 _ rfl
    have c9:=D.out.hb.at 9 _ rfl
    have c10:=D.out.hb.at 10 _ rfl
    have hws:=D.out.hu.size
    go_upto_region 26 with (at_builtin;go_loud (refine zbj rfl (.tmp 80) (.tmp 82) 69 rfl w.heap.size 5 1 (.int .u8 0) Tryz.underlying69 zec rfl A' out.length c' (pu8s out) rfl D.out.ho _ .u8 Ap cp pl rfl (IP.out.below D.out.hu) (by unfold maxLen;omega) (by omega) hws (out.length+pl.length) rfl ?_);intro A21 c21' w121 qo hgr hat)
    clear c0 c1 c2 c3 c4 c5 c6 c7 c8 c9 c10 hws
    have D':=Z9 (D.out.grown (l:=pl) (by rw [List.length_append]) rfl qo hgr)
    clear D qo hgr hat
    have D:=D'
    clear D'
    obtain ⟨o21,hO21⟩:∃ o,o=out++pl:=⟨_,rfl⟩
    rw [← hO21] at D
    have HE21:=Z9 hO21
    have hq21:o21.length=out.length+(pl).length:=by rw [hO21,List.length_append]
    have HL21:=Z9 hq21
    have hl21:o21.length≤out.length+(pl).length:=by omega
    clear hq21 hO21
    rw [show out.length+pl.length=o21.length from HL21.out.symm]
    have hfin:o21=Pk.bytes ⟨true,ty,sq,ti,so,mx,false,ek,et,pl,pad⟩:=by
     unfold Pk.bytes Pk.lead Pk.tail
     rw [HE21.out,HX.out,← HE3.out,← HE2.out,← HE1.out,HE0.out]
     rw [HPAD.out]
     simp [List.append_assoc]
    have HFIN:=Z9 hfin
    clear hfin
    have c0:=D.out.hb.at 0 _ rfl
    have c1:=D.out.hb.at 1 _ rfl
    have c2:=D.out.hb.at 2 _ rfl
    have c3:=D.out.hb.at 3 _ rfl
    have c4:=D.out.hb.at 4 _ rfl
    have c5:=D.out.hb.at 5 _ rfl
    have c6:=D.out.hb.at 6 _ rfl
    have c7:=D.out.hb.at 7 _ rfl
    have c8:=D.out.hb.at 8 _ rfl
    have c9:=D.out.hb.at 9 _ rfl
    have c10:=D.out.hb.at 10 _ rfl
    go_wp2_with fail
    go_ret2
    rw [← HFIN.out]
    exact ⟨A21,c21',rfl,D.out.ho.cap,IntsNew.of_own D.out.ho (Nat.le_refl _),D.out.hu⟩
end
end Go.Proofs.YtbcgnddpkiemoaaGreat
namespace Go.Proofs.YtbcgnddpkiemoaaGreat
attribute [local go_sem] zaa zad
open Go.RowKit
theorem zlz (a b:Nat) (ha:a<4294967296) (hb:b<4294967296):bits .or .u32 (a:Int) (b:Int)=((a ||| b:Nat):Int):=by
 have hx:a ||| b<2 ^ 32:=Nat.or_lt_two_pow (by omega) (by omega)
 show IntKind.u32.wrap ((BitVec.ofInt 32 (a:Int) ||| BitVec.ofInt 32 (b:Int)).toNat:Int)=_
 rw [BitVec.toNat_or,BitVec.ofInt_natCast,BitVec.ofInt_natCast,BitVec.toNat_ofNat,BitVec.toNat_ofNat,Nat.mod_eq_of_lt (by omega),Nat.mod_eq_of_lt (by omega)]
 have e:((a ||| b:Nat):Int) % 2 ^ 32=((a ||| b:Nat):Int):=Int.emod_eq_of_lt (by omega) (by omega)
 simp only [IntKind.wrap,IntKind.bits,IntKind.signed,e]
 simp
theorem zoq (x z:Int) (x0:0≤x) (x1:x≤16777215) (z0:0≤z) (z1:z≤255):bits BinOp.or IntKind.u32 (x*256) z=256*x+z:=by
 obtain ⟨n0,rfl⟩:=Int.eq_ofNat_of_zero_le x0
 obtain ⟨n1,rfl⟩:=Int.eq_ofNat_of_zero_le z0
 have e:((n0:Int)*256)=((n0*256:Nat):Int):=by omega
 have h:n0*256 ||| n1=n0*256+n1:=by
  rw [show (256:Nat)=2 ^ 8 from rfl,← Nat.shiftLeft_eq,Nat.shiftLeft_add_eq_or_of_lt (by omega)]
 rw [e,zlz (n0*256) n1 (by omega) (by omega),h]
 omega
theorem zma (bs:List Int) (hb:Within 0 255 bs) (k:Nat) (hk:k<4):0≤val (bs.take k)∧val (bs.take k)≤16777215:=by
 obtain ⟨h1,h2⟩:=zop _ (bs.take k) rfl (hb.take k)
 have hl:(bs.take k).length≤3:=by simp;omega
 generalize (bs.take k).length=m at *
 have h3:(256:Int) ^ m≤16777216:=by
  have:∀ i:Fin 4,(256:Int) ^ i.val≤16777216:=by decide
  exact this ⟨m,by omega⟩
 omega
section
variable (A:Option Addr) (bs:List Int) (c:Nat) (w:World) (B:Nat)
theorem zca (hA:IntsAt w B .u8 A bs) (hb:Within 0 255 bs) (hl:bs.length≤4) (n:Nat) (hn:bs.length=n) :
 Calls Tryz.prog 56 #[.slice A n c] w fun e w'=>e = .returned (.int .u32 (val bs))∧w=w':=by
 subst hn
 have HA:=Z9 hA
 have HB:=Z9 hb
 clear hA hb
 go_enter Tryz.func56,Tryz.ntmps56
 go_wp2
 go_loop [3,8] (fun s i => ∃ k:Nat,k≤bs.length∧i = .int .i64 k∧s = .int .u32 (val (bs.take k))) (fun _ i=>bs.length-(intOf i).toNat)
 case atStart=>exact ⟨0,Nat.zero_le _,rfl,rfl⟩
 case round =>
  obtain ⟨k,hk,rfl,rfl⟩:=hrel
  by_cases hlt:k<bs.length
  · obtain ⟨b,off,rfl,hbB,qc⟩:=HA.out (by omega)
    have hc:=qc k hlt
    obtain ⟨z0,z1⟩:=HB.out.at hlt
    obtain ⟨v0,v1⟩:=zma bs HB.out k (by omega)
    have hst:=zra bs k hlt
    have HS:=Z9 hst
    clear qc hst
    generalize bs.getD k 0=z at *
    generalize val (bs.take k)=v at *
    have hor:=zoq v z v0 v1 z0 z1
    have hi0:(0:Int)≤(k:Int):=by omega
    have hi1:(k:Int)<(bs.length:Int):=by omega
    have hzw:IntKind.u32.wrap z=z:=by rw [zcw];omega
    go_wp2
    go_round
    case rel=>exact ⟨k+1,by omega,by go_num,by rw [HS.out]⟩
    case measure=>simp [intOf];omega
  · obtain rfl:k=bs.length:=by omega
    go_wp2
    go_ret
    exact ⟨zew (by first|rfl|rw [List.take_length]),rfl⟩
end
def NumR (n:Nat) (x:Int) (w:World) (e:Ending) (w':World):Prop :=
 ∃ (A:Option Addr) (c:Nat),e = .returned (.slice A n c)∧IntsNew w.heap.size w' .u8 A (be n x)∧Below w.heap.size w w'
section
variable (w:World) (x:Int) (n:Nat)
end
namespace Pk
def chk (bs:List Int):Int×Int :=
 if bs.length=0 then (0,6) else
 if bs.getD 0 0 / 64≠2 then (0,15) else
 if (bs.length:Int)<12+4*(bs.getD 0 0 % 16) then (bs.length,6) else
 if bs.getD 0 0 / 16 % 2=0 then (0,0) else
 if (bs.length:Int)<12+4*(bs.getD 0 0 % 16)+4 then (bs.length,6) else
 if 1020<4*fld bs (14+4*(bs.getD 0 0 % 16).toNat) 2 then (12+4*(bs.getD 0 0 % 16)+2,4) else
 if (bs.length:Int)<12+4*(bs.getD 0 0 % 16)+4+4*fld bs (14+4*(bs.getD 0 0 % 16).toNat) 2 then (bs.length,6) else (0,0)
end Pk
theorem zex (x:Int) (x0:0≤x) (x1:x≤255):bits BinOp.and IntKind.u8 x 15=x % 16:=by
 obtain ⟨n,rfl⟩:=Int.eq_ofNat_of_zero_le x0
 have h:∀ i:Fin 256,bits BinOp.and IntKind.u8 (i.val:Int) 15=(i.val:Int) % 16:=by decide +kernel
 exact h ⟨n,by omega⟩
theorem zey (x:Int) (x0:0≤x) (x1:x≤255):bits BinOp.and IntKind.u8 x 16=16*(x / 16 % 2):=by
 obtain ⟨n,rfl⟩:=Int.eq_ofNat_of_zero_le x0
 have h:∀ i:Fin 256,bits BinOp.and IntKind.u8 (i.val:Int) 16=16*((i.val:Int) / 16 % 2):=by decide +kernel
 exact h ⟨n,by omega⟩
section
variable (A:Option Addr) (bs:List Int) (c:Nat) (w:World)
theorem zor (hA:IntsAt w w.heap.size .u8 A bs) (hz:Within 0 255 bs) (hm:bs.length≤100000) (hc:bs.length≤c) (h:bs.length=0):Calls Tryz.prog 54 #[.slice A bs.length c] w fun e w'=>e = .returned (.tuple #[.int .i64 (0), .int .u8 6])∧w=w':=by
 obtain rfl:=List.eq_nil_of_length_eq_zero h
 clear hA hz h
 go_enter Tryz.func54,Tryz.ntmps54
 go_wp2_with fail
 go_ret2
 exact ⟨rfl,rfl⟩
theorem zut (hA:IntsAt w w.heap.size .u8 A bs) (hz:Within 0 255 bs) (hm:bs.length≤100000) (hc:bs.length≤c) (h:0<bs.length) (h2:bs.getD 0 0 / 64≠2):Calls Tryz.prog 54 #[.slice A bs.length c] w fun e w'=>e = .returned (.tuple #[.int .i64 (0), .int .u8 15])∧w=w':=by
 obtain ⟨b,off,rfl,hbB,qc⟩:=hA (by omega)
 have q0:w.cell? ⟨b,off,none⟩=some (.int .u8 (bs.getD 0 0)):=qc 0 (by omega)
 obtain ⟨m0,n0⟩:=hz.at (i:=0) (by omega)
 have hl1:¬bs.length=0:=by omega
 have hl2:¬bs=[]:=by intro h5;rw [h5] at hl1;exact hl1 rfl
 have hl3:(0:Int)<(bs.length:Int):=by omega
 generalize bs.getD 0 0=x at *
 have HA:=Z9 hA
 have HZ:=Z9 hz
 clear qc hA hz
 have k1:(x / 64 != 2)=true:=bne_iff_ne.2 h2
 clear h2
 go_enter Tryz.func54,Tryz.ntmps54
 go_wp2_with fail
 go_ret2
 exact ⟨rfl,rfl⟩
theorem zmb (hA:IntsAt w w.heap.size .u8 A bs) (hz:Within 0 255 bs) (hm:bs.length≤100000) (hc:bs.length≤c) (mm:Nat) (h:0<bs.length) (h2:bs.getD 0 0 / 64=2) (hmm:bs.getD 0 0 % 16=(mm:Int)) (h3:(bs.length:Int)<12+4*(mm:Int)):Calls Tryz.prog 54 #[.slice A bs.length c] w fun e w'=>e = .returned (.tuple #[.int .i64 (bs.length), .int .u8 6])∧w=w':=by
 obtain ⟨b,off,rfl,hbB,qc⟩:=hA (by omega)
 have q0:w.cell? ⟨b,off,none⟩=some (.int .u8 (bs.getD 0 0)):=qc 0 (by omega)
 obtain ⟨m0,n0⟩:=hz.at (i:=0) (by omega)
 have hl1:¬bs.length=0:=by omega
 have hl2:¬bs=[]:=by intro h5;rw [h5] at hl1;exact hl1 rfl
 have hl3:(0:Int)<(bs.length:Int):=by omega
 generalize bs.getD 0 0=x at *
 have HA:=Z9 hA
 have HZ:=Z9 hz
 clear qc hA hz
 have kk:=zex x m0 n0
 rw [hmm] at kk
 have mb:(mm:Int)≤15:=by omega
 have k1:(x / 64 != 2)=false:=by simp [h2]
 have k2:=zey x m0 n0
 clear h2 hmm
 go_enter Tryz.func54,Tryz.ntmps54
 go_wp2_with fail
 go_ret2
 exact ⟨rfl,rfl⟩
theorem zos (hA:IntsAt w w.heap.size .u8 A bs) (hz:Within 0 255 bs) (hm:bs.length≤100000) (hc:bs.length≤c) (mm:Nat) (h:0<bs.length) (h2:bs.getD 0 0 / 64=2) (hmm:bs.getD 0 0 % 16=(mm:Int)) (h3:12+4*(mm:Int)≤(bs.length:Int)) (h4:bs.getD 0 0 / 16 % 2=0):Calls Tryz.prog 54 #[.slice A bs.length c] w fun e w'=>e = .returned (.tuple #[.int .i64 (0), .int .u8 0])∧w=w':=by
 obtain ⟨b,off,rfl,hbB,qc⟩:=hA (by omega)
 have q0:w.cell? ⟨b,off,none⟩=some (.int .u8 (bs.getD 0 0)):=qc 0 (by omega)
 obtain ⟨m0,n0⟩:=hz.at (i:=0) (by omega)
 have hl1:¬bs.length=0:=by omega
 have hl2:¬bs=[]:=by intro h5;rw [h5] at hl1;exact hl1 rfl
 have hl3:(0:Int)<(bs.length:Int):=by omega
 generalize bs.getD 0 0=x at *
 have HA:=Z9 hA
 have HZ:=Z9 hz
 clear qc hA hz
 have kk:=zex x m0 n0
 rw [hmm] at kk
 have mb:(mm:Int)≤15:=by omega
 have k1:(x / 64 != 2)=false:=by simp [h2]
 have k2:=zey x m0 n0
 rw [h4] at k2
 clear h2 hmm h4
 go_enter Tryz.func54,Tryz.ntmps54
 go_wp2_with fail
 go_ret2
 exact ⟨rfl,rfl⟩
theorem zmc (hA:IntsAt w w.heap.size .u8 A bs) (hz:Within 0 255 bs) (hm:bs.length≤100000) (hc:bs.length≤c) (mm:Nat) (h:0<bs.length) (h2:bs.getD 0 0 / 64=2) (hmm:bs.getD 0 0 % 16=(mm:Int)) (h3:12+4*(mm:Int)≤(bs.length:Int)) (h4:bs.getD 0 0 / 16 % 2=1) (h5:(bs.length:Int)<12+4*(mm:Int)+4):Calls Tryz.prog 54 #[.slice A bs.length c] w fun e w'=>e = .returned (.tuple #[.int .i64 (bs.length), .int .u8 6])∧w=w':=by
 obtain ⟨b,off,rfl,hbB,qc⟩:=hA (by omega)
 have q0:w.cell? ⟨b,off,none⟩=some (.int .u8 (bs.getD 0 0)):=qc 0 (by omega)
 obtain ⟨m0,n0⟩:=hz.at (i:=0) (by omega)
 have hl1:¬bs.length=0:=by omega
 have hl2:¬bs=[]:=by intro h5;rw [h5] at hl1;exact hl1 rfl
 have hl3:(0:Int)<(bs.length:Int):=by omega
 generalize bs.getD 0 0=x at *
 have HA:=Z9 hA
 have HZ:=Z9 hz
 clear qc hA hz
 have kk:=zex x m0 n0
 rw [hmm] at kk
 have mb:(mm:Int)≤15:=by omega
 have k1:(x / 64 != 2)=false:=by simp [h2]
 have k2:=zey x m0 n0
 rw [h4] at k2
 clear h2 hmm h4
 go_enter Tryz.func54,Tryz.ntmps54
 go_wp2_with fail
 go_ret2
 exact ⟨rfl,rfl⟩
theorem zot (hA:IntsAt w w.heap.size .u8 A bs) (hz:Within 0 255 bs) (hm:bs.length≤100000) (hc:bs.length≤c) (mm:Nat) (h:0<bs.length) (h2:bs.getD 0 0 / 64=2) (hmm:bs.getD 0 0 % 16=(mm:Int)) (h3:12+4*(mm:Int)≤(bs.length:Int)) (h4:bs.getD 0 0 / 16 % 2=1) (h5:12+4*(mm:Int)+4≤(bs.length:Int)) (h6:1020<4*fld bs (14+4*mm) 2):Calls Tryz.prog 54 #[.slice A bs.length c] w fun e w'=>e = .returned (.tuple #[.int .i64 (12+4*(mm:Int)+2), .int .u8 4])∧w=w':=by
 obtain ⟨b,off,rfl,hbB,qc⟩:=hA (by omega)
 have q0:w.cell? ⟨b,off,none⟩=some (.int .u8 (bs.getD 0 0)):=qc 0 (by omega)
 obtain ⟨m0,n0⟩:=hz.at (i:=0) (by omega)
 have hl1:¬bs.length=0:=by omega
 have hl2:¬bs=[]:=by intro h5;rw [h5] at hl1;exact hl1 rfl
 have hl3:(0:Int)<(bs.length:Int):=by omega
 obtain ⟨f0,f1⟩:=zia bs (14+4*mm) 2 hz (by omega)
 have hsub:IntsAt w w.heap.size .u8 (some ⟨b,off+(14+4*mm),none⟩) ((bs.drop (14+4*mm)).take 2):=by
  obtain ⟨b',off',e,h'⟩:=hA.drop (14+4*mm) (by omega)
  cases e
  exact h'.take 2
 have ks:=Z9 fun C=>zca (some ⟨b,off+(14+4*mm),none⟩) ((bs.drop (14+4*mm)).take 2) C w _ hsub ((hz.drop _).take _) (by simp;omega) 2 (by simp;omega)
 change Hid (∀ C,Calls _ _ _ _ (fun e w'=>e = .returned (.int .u32 (fld bs (14+4*mm) 2))∧w=w')) at ks
 clear hsub
 generalize fld bs (14+4*mm) 2=X at *
 have f2:X≤65535:=by have:(256:Int) ^ 2=65536:=rfl;omega
 clear f1
 generalize bs.getD 0 0=x at *
 have HA:=Z9 hA
 have HZ:=Z9 hz
 clear qc hA hz
 have kk:=zex x m0 n0
 rw [hmm] at kk
 have mb:(mm:Int)≤15:=by omega
 have k1:(x / 64 != 2)=false:=by simp [h2]
 have k2:=zey x m0 n0
 rw [h4] at k2
 clear h2 hmm h4
 have s1:(12+4*(mm:Int)+2).toNat=14+4*mm:=by omega
 have s2:(12+4*(mm:Int)+4).toNat=16+4*mm:=by omega
 have s3:12+4*(mm:Int)+4≤(c:Int):=by omega
 have s4:16+4*mm-(14+4*mm)=2:=by omega
 have s5:¬c=14+4*mm:=by omega
 go_enter Tryz.func54,Tryz.ntmps54
 go_wp2_with fail
 refine (ks.out _).mono ?_
 rintro e w1 ⟨rfl,rfl⟩
 go_wp2_with fail
 go_ret2
 exact ⟨rfl,rfl⟩
theorem zmd (hA:IntsAt w w.heap.size .u8 A bs) (hz:Within 0 255 bs) (hm:bs.length≤100000) (hc:bs.length≤c) (mm:Nat) (h:0<bs.length) (h2:bs.getD 0 0 / 64=2) (hmm:bs.getD 0 0 % 16=(mm:Int)) (h3:12+4*(mm:Int)≤(bs.length:Int)) (h4:bs.getD 0 0 / 16 % 2=1) (h5:12+4*(mm:Int)+4≤(bs.length:Int)) (h6:4*fld bs (14+4*mm) 2≤1020) (h7:(bs.length:Int)<12+4*(mm:Int)+4+4*fld bs (14+4*mm) 2):Calls Tryz.prog 54 #[.slice A bs.length c] w fun e w'=>e = .returned (.tuple #[.int .i64 (bs.length), .int .u8 6])∧w=w':=by
 obtain ⟨b,off,rfl,hbB,qc⟩:=hA (by omega)
 have q0:w.cell? ⟨b,off,none⟩=some (.int .u8 (bs.getD 0 0)):=qc 0 (by omega)
 obtain ⟨m0,n0⟩:=hz.at (i:=0) (by omega)
 have hl1:¬bs.length=0:=by omega
 have hl2:¬bs=[]:=by intro h5;rw [h5] at hl1;exact hl1 rfl
 have hl3:(0:Int)<(bs.length:Int):=by omega
 obtain ⟨f0,f1⟩:=zia bs (14+4*mm) 2 hz (by omega)
 have hsub:IntsAt w w.heap.size .u8 (some ⟨b,off+(14+4*mm),none⟩) ((bs.drop (14+4*mm)).take 2):=by
  obtain ⟨b',off',e,h'⟩:=hA.drop (14+4*mm) (by omega)
  cases e
  exact h'.take 2
 have ks:=Z9 fun C=>zca (some ⟨b,off+(14+4*mm),none⟩) ((bs.drop (14+4*mm)).take 2) C w _ hsub ((hz.drop _).take _) (by simp;omega) 2 (by simp;omega)
 change Hid (∀ C,Calls _ _ _ _ (fun e w'=>e = .returned (.int .u32 (fld bs (14+4*mm) 2))∧w=w')) at ks
 clear hsub
 generalize fld bs (14+4*mm) 2=X at *
 have f2:X≤65535:=by have:(256:Int) ^ 2=65536:=rfl;omega
 clear f1
 generalize bs.getD 0 0=x at *
 have HA:=Z9 hA
 have HZ:=Z9 hz
 clear qc hA hz
 have kk:=zex x m0 n0
 rw [hmm] at kk
 have mb:(mm:Int)≤15:=by omega
 have k1:(x / 64 != 2)=false:=by simp [h2]
 have k2:=zey x m0 n0
 rw [h4] at k2
 clear h2 hmm h4
 have s1:(12+4*(mm:Int)+2).toNat=14+4*mm:=by omega
 have s2:(12+4*(mm:Int)+4).toNat=16+4*mm:=by omega
 have s3:12+4*(mm:Int)+4≤(c:Int):=by omega
 have s4:16+4*mm-(14+4*mm)=2:=by omega
 have s5:¬c=14+4*mm:=by omega
 go_enter Tryz.func54,Tryz.ntmps54
 go_wp2_with fail
 refine (ks.out _).mono ?_
 rintro e w1 ⟨rfl,rfl⟩
 go_wp2_with fail
 go_ret2
 exact ⟨rfl,rfl⟩
theorem zuu (hA:IntsAt w w.heap.size .u8 A bs) (hz:Within 0 255 bs) (hm:bs.length≤100000) (hc:bs.length≤c) (mm:Nat) (h:0<bs.length) (h2:bs.getD 0 0 / 64=2) (hmm:bs.getD 0 0 % 16=(mm:Int)) (h3:12+4*(mm:Int)≤(bs.length:Int)) (h4:bs.getD 0 0 / 16 % 2=1) (h5:12+4*(mm:Int)+4≤(bs.length:Int)) (h6:4*fld bs (14+4*mm) 2≤1020) (h7:12+4*(mm:Int)+4+4*fld bs (14+4*mm) 2≤(bs.length:Int)):Calls Tryz.prog 54 #[.slice A bs.length c] w fun e w'=>e = .returned (.tuple #[.int .i64 (0), .int .u8 0])∧w=w':=by
 obtain ⟨b,off,rfl,hbB,qc⟩:=hA (by omega)
 have q0:w.cell? ⟨b,off,none⟩=some (.int .u8 (bs.getD 0 0)):=qc 0 (by omega)
 obtain ⟨m0,n0⟩:=hz.at (i:=0) (by omega)
 have hl1:¬bs.length=0:=by omega
 have hl2:¬bs=[]:=by intro h5;rw [h5] at hl1;exact hl1 rfl
 have hl3:(0:Int)<(bs.length:Int):=by omega
 obtain ⟨f0,f1⟩:=zia bs (14+4*mm) 2 hz (by omega)
 have hsub:IntsAt w w.heap.size .u8 (some ⟨b,off+(14+4*mm),none⟩) ((bs.drop (14+4*mm)).take 2):=by
  obtain ⟨b',off',e,h'⟩:=hA.drop (14+4*mm) (by omega)
  cases e
  exact h'.take 2
 have ks:=Z9 fun C=>zca (some ⟨b,off+(14+4*mm),none⟩) ((bs.drop (14+4*mm)).take 2) C w _ hsub ((hz.drop _).take _) (by simp;omega) 2 (by simp;omega)
 change Hid (∀ C,Calls _ _ _ _ (fun e w'=>e = .returned (.int .u32 (fld bs (14+4*mm) 2))∧w=w')) at ks
 clear hsub
 generalize fld bs (14+4*mm) 2=X at *
 have f2:X≤65535:=by have:(256:Int) ^ 2=65536:=rfl;omega
 clear f1
 generalize bs.getD 0 0=x at *
 have HA:=Z9 hA
 have HZ:=Z9 hz
 clear qc hA hz
 have kk:=zex x m0 n0
 rw [hmm] at kk
 have mb:(mm:Int)≤15:=by omega
 have k1:(x / 64 != 2)=false:=by simp [h2]
 have k2:=zey x m0 n0
 rw [h4] at k2
 clear h2 hmm h4
 have s1:(12+4*(mm:Int)+2).toNat=14+4*mm:=by omega
 have s2:(12+4*(mm:Int)+4).toNat=16+4*mm:=by omega
 have s3:12+4*(mm:Int)+4≤(c:Int):=by omega
 have s4:16+4*mm-(14+4*mm)=2:=by omega
 have s5:¬c=14+4*mm:=by omega
 go_enter Tryz.func54,Tryz.ntmps54
 go_wp2_with fail
 refine (ks.out _).mono ?_
 rintro e w1 ⟨rfl,rfl⟩
 go_wp2_with fail
 go_ret2
 exact ⟨rfl,rfl⟩
theorem zha (hA:IntsAt w w.heap.size .u8 A bs) (hz:Within 0 255 bs) (hm:bs.length≤100000) (hc:bs.length≤c):Calls Tryz.prog 54 #[.slice A bs.length c] w fun e w'=>e = .returned (.tuple #[.int .i64 (Pk.chk bs).1, .int .u8 (Pk.chk bs).2])∧w=w':=by
 unfold Pk.chk
 by_cases h1:bs.length=0
 · rw [if_pos h1];exact zor A bs c w hA hz hm hc h1
 rw [if_neg h1]
 by_cases h2:bs.getD 0 0 / 64=2
 case neg=>rw [if_pos h2];exact zut A bs c w hA hz hm hc (by omega) h2
 rw [if_neg (by omega)]
 obtain ⟨mm,hmm⟩:∃ n:Nat,bs.getD 0 0 % 16=(n:Int):=⟨(bs.getD 0 0 % 16).toNat,by omega⟩
 have hq:(bs.getD 0 0 % 16).toNat=mm:=by omega
 rw [hq,hmm]
 by_cases h3:(bs.length:Int)<12+4*(mm:Int)
 · rw [if_pos h3];exact zmb A bs c w hA hz hm hc mm (by omega) h2 hmm h3
 rw [if_neg h3]
 by_cases h4:bs.getD 0 0 / 16 % 2=0
 · rw [if_pos h4];exact zos A bs c w hA hz hm hc mm (by omega) h2 hmm (by omega) h4
 rw [if_neg h4]
 have h4':bs.getD 0 0 / 16 % 2=1:=by omega
 by_cases h5:(bs.length:Int)<12+4*(mm:Int)+4
 · rw [if_pos h5];exact zmc A bs c w hA hz hm hc mm (by omega) h2 hmm (by omega) h4' h5
 rw [if_neg h5]
 by_cases h6:1020<4*fld bs (14+4*mm) 2
 · rw [if_pos h6];exact zot A bs c w hA hz hm hc mm (by omega) h2 hmm (by omega) h4' (by omega) h6
 rw [if_neg h6]
 by_cases h7:(bs.length:Int)<12+4*(mm:Int)+4+4*fld bs (14+4*mm) 2
 · rw [if_pos h7];exact zmd A bs c w hA hz hm hc mm (by omega) h2 hmm (by omega) h4' (by omega) (by omega) h7
 · rw [if_neg h7];exact zuu A bs c w hA hz hm hc mm (by omega) h2 hmm (by omega) h4' (by omega) (by omega) (by omega)
end
open Go.RowKit
attribute [local go_sem] zaa zad
theorem zou {w:World} {g:Nat} {t:TypeId} {bs:List Int} (h:Blk w g t (pu8s bs).toArray):IntsAt w w.heap.size .u8 (some ⟨g,0,none⟩) bs:=fun h0=>by
 refine ⟨g,0,rfl,h.lt,fun i hi => ?_⟩
 rw [Nat.zero_add,h.cell i]
 simp [pu8s,List.getElem?_eq_getElem hi,List.getD_eq_getElem?_getD]
section
variable (A:Option Addr) (bs:List Int) (c:Nat) (w:World)
def CloneR (bs:List Int) (w:World) (e:Ending) (w':World):Prop:=∃ (A':Option Addr) (c':Nat),e = .returned (.slice A' bs.length c')∧IntsNew w.heap.size w' .u8 A' bs∧Below w.heap.size w w'
def CloneRC (bs:List Int) (w:World) (e:Ending) (w':World):Prop:=∃ (A':Option Addr) (c':Nat),e = .returned (.slice A' bs.length c')∧bs.length≤c'∧IntsNew w.heap.size w' .u8 A' bs∧Below w.heap.size w w'
theorem zov:Calls Tryz.prog 57 #[.slice A 0 c] w (CloneRC [] w):=by
 go_enter Tryz.func57,Tryz.ntmps57
 go_wp2_with fail
 go_ret
 exact ⟨none,0,rfl,Nat.le_refl _,IntsNew.nil,Bel.refl w⟩
theorem zme (hA:IntsAt w w.heap.size .u8 A bs) (hl:bs.length≤100000) (h0:0<bs.length):Calls Tryz.prog 57 #[.slice A bs.length c] w (CloneRC bs w):=by
 have hmk:=run_make_row' (P:=Tryz.prog) 69 5 (.int .u8 0) 1 Tryz.underlying69 zec rfl .i64 .i64 bs.length (by omega) (by omega) w
 obtain ⟨cur,hcur⟩:∃ cur:List Value,cur=(madeCells #[.int .u8 0] bs.length).toList:=⟨_,rfl⟩
 have hcl:cur.length=bs.length:=by rw [hcur];simp [madeCells]
 obtain ⟨W1,hW1⟩:∃ W1,W1=w.alloc (.cells (madeCells #[.int .u8 0] bs.length) 5):=⟨_,rfl⟩
 have hB:Blk W1 w.heap.size 5 cur.toArray:=by rw [hW1,hcur,Array.toArray_toList];exact Blk.new _ _ _
 have hU:Below w.heap.size w W1:=by rw [hW1];exact (Below.refl _ _).alloc (Nat.le_refl _) _
 rw [← hW1] at hmk
 clear hW1 hcur
 have hl1:¬bs.length=0:=by omega
 have hl2:¬bs=[]:=by intro h5;rw [h5] at hl1;exact hl1 rfl
 obtain ⟨b,off,rfl,hbB,qc⟩:=hA h0
 have hsp:splice cur 0 (pu8s bs)=pu8s bs:=by simp [splice,pu8s,hcl]
 have HC:∀ j v,(pu8s bs)[j]? = some v→W1.cell? ((⟨b,off,none⟩:Addr).add j)=some v:=by
  intro j v hv
  have hj:j<bs.length:=by
   have:=(List.getElem?_eq_some_iff.1 hv).1
   simpa [pu8s] using this
  have:=(hU.cell (p:=⟨b,off+j,none⟩) hbB).trans (qc j hj)
  rw [show ((⟨b,off,none⟩:Addr).add j)=⟨b,off+j,none⟩ by simp [Addr.add],this]
  simp [pu8s,List.getElem?_eq_getElem hj] at hv
  rw [← hv];simp [List.getD_eq_getElem?_getD,List.getElem?_eq_getElem hj]
 have HCC:=Z9 HC
 have HB:=Z9 hB
 have HU:=Z9 hU
 have HSP:=Z9 hsp
 have HCL:=Z9 hcl
 clear HC hB hU hsp qc hA hcl
 go_enter Tryz.func57,Tryz.ntmps57
 go_wp2_with (refine wpList_copy_splice (o := ⟨some 12, _, _, _, _, _⟩) rfl (.tmp 10) (.tmp 11) 69 69 rfl 5 Tryz.underlying69 (by kernel_rfl) _ _ _ _ _ _ rfl rfl w.heap.size 0 cur 5 HB.out (pu8s bs) (by simp [pu8s]) (fun _ => ⟨rfl, _, rfl, HCC.out⟩) (by rw [HCL.out]; simp [pu8s]) (by intro v hv; simp [pu8s] at hv; obtain ⟨z, _, rfl⟩ := hv; rfl) w.heap.size w HU.out (Nat.le_refl _) ?_
              intro w2 hB2 hU2)
 rw [HSP.out] at hB2
 go_ret
 exact ⟨_,_,rfl,Nat.le_refl _,⟨zou hB2.out,fun _ b' off' e=>by cases e;exact Nat.le_refl _⟩,hU2⟩
end
open Go.RowKit
attribute [local go_sem] zaa zad
def Only (g:Nat) (w w':World):Prop:=w.grownBy w' (some g)∧w'.heap.size=w.heap.size
section
variable {g:Nat} {w w1 w2:World}
theorem Only.refl (g:Nat) (w:World):Only g w w:=⟨World.grownBy.refl w _,rfl⟩
theorem Only.trans (h:Only g w w1) (h2:Only g w1 w2):Only g w w2 :=
 ⟨⟨h2.1.os.trans h.1.os,h2.1.tape.trans h.1.tape,h2.1.output.trans h.1.output,Nat.le_trans h.1.size h2.1.size,fun k hk hne=>(h2.1.block k (Nat.lt_of_lt_of_le hk h.1.size) hne).trans (h.1.block k hk hne)⟩,h2.2.trans h.2⟩
theorem Only.set (h:Only g w w1) (i:Nat) (v:Value):Only g w (w1.setCell ⟨g,i,none⟩ v) :=
 h.trans ⟨⟨rfl,rfl,rfl,by simp [World.setCell],fun k hk hne=>Below.heap_setCell w1 _ v k (fun e=>hne (by rw [e]))⟩,by simp [World.setCell]⟩
theorem Only.drew (h:Only g w w1):Only g w w1.drew:=⟨⟨h.1.os,h.1.tape,h.1.output,h.1.size,h.1.block⟩,h.2⟩
theorem Only.blk {g':Nat} {t:TypeId} {cs:Array Value} (h:Only g w w1) (hb:Blk w g' t cs) (hne:g'≠g):Blk w1 g' t cs:=hb.grown h.1 (fun e=>hne (by injection e))
theorem Only.cell {a:Addr} {v:Value} (h:Only g w w1) (hc:w.cell? a=some v) (hne:a.block≠g):w1.cell? a=some v:=h.1.cell hc (fun e=>hne (by injection e))
theorem Only.below {W:World} (h:Only g w w1) (hb:Below W.heap.size W w) (hg:W.heap.size≤g):Below W.heap.size W w1 :=
 hb.grown h.1 (Nat.le_trans (Nat.le_refl _) hb.size) (fun k e=>by injection e with e;omega)
end
def TakeR (gb b off L C n:Nat) (w:World) (e:Ending) (w':World):Prop :=
 e = .returned (.slice (some ⟨b,off,none⟩) n n)∧Only gb w w'∧∃ o':Nat,Blk w' gb 69 #[.slice (some ⟨b,o',none⟩) (L-n) (C-n)]∧(n<C→o'=off+n)
section
variable (gb b off L C n:Nat) (w:World)
theorem zro (hg:Blk w gb 69 #[.slice (some ⟨b,off,none⟩) L C]) (hn:n≤L) (hL:L≤C) (hm:L≤100000) :
 Calls Tryz.prog 55 #[.int .i64 n, .pointer (some ⟨gb,0,none⟩)] w (TakeR gb b off L C n w):=by
 have c0:=hg.at 0 _ rfl
 have hz:=hg.frozen
 have HG:=Z9 hg
 have n0:(0:Int)≤(n:Int):=by omega
 have n1:(n:Int)≤(L:Int):=by omega
 have n2:(n:Int)≤(C:Int):=by omega
 clear hg
 by_cases hC:C=n
 · subst hC
   obtain rfl:L=C:=by omega
   go_enter Tryz.func55,Tryz.ntmps55
   go_wp2_with fail
   go_ret
   exact ⟨rfl,(Only.refl _ _).set 0 _,off,by have h:=HG.out.set_ 0 (.slice (some ⟨b,off,none⟩) 0 0);simpa using h,fun h=>absurd h (by omega)⟩
 · have hC2:¬C=n:=hC
   go_enter Tryz.func55,Tryz.ntmps55
   go_wp2_with fail
   go_ret
   exact ⟨rfl,(Only.refl _ _).set 0 _,off+n,by have h:=HG.out.set_ 0 (.slice (some ⟨b,off+n,none⟩) (L-n) (C-n));simpa using h,fun _=>rfl⟩
end
namespace Pk
def bad (bs:List Int):Nat→Nat→Option Nat
 | _,0=>none
 | i,k+1=>if bs.getD i 0=0 then bad bs (i+1) k else some i
def padOf (n:Int):Option Nat→Int×Int×Int
 | none=>(n,0,0)
 | some i=>(0,i,5)
def padR (bs:List Int):Int×Int×Int :=
 if bs.length=0 then (0, -1,5) else
 if bs.getD (bs.length-1) 0=0∨(bs.length:Int)<bs.getD (bs.length-1) 0 then (0,(bs.length:Int)-1,5) else
 padOf (bs.getD (bs.length-1) 0) (bad bs (bs.length-(bs.getD (bs.length-1) 0).toNat) ((bs.getD (bs.length-1) 0).toNat-1))
def many (bs:List Int):Nat:=(bs.getD 0 0 % 16).toNat
def ext (bs:List Int):Bool:=decide (bs.getD 0 0 / 16 % 2=1)
def extN (bs:List Int):Nat:=(4*fld bs (14+4*many bs) 2).toNat
def bodyAt (bs:List Int):Nat:=if ext bs then 16+4*many bs+extN bs else 12+4*many bs
def Pkt.zero:Pkt:=⟨false,0,0,0,0,[],false,0,[],[],0⟩
def pkt (bs:List Int) (n:Nat):Pkt :=
 ⟨decide (128≤bs.getD 1 0),bs.getD 1 0 % 128,fld bs 2 2,fld bs 4 4,fld bs 8 4,(List.range (many bs)).map (fun i=>fld bs (12+4*i) 4),ext bs,
  if ext bs then fld bs (12+4*many bs) 2 else 0,if ext bs then (bs.drop (16+4*many bs)).take (extN bs) else [],
  (bs.drop (bodyAt bs)).take (bs.length-bodyAt bs-n),n⟩
def fin (bs:List Int) (n:Nat):Pkt×Int×Int :=
 if 1500<bs.length-bodyAt bs-n then (Pkt.zero,bodyAt bs,4) else (pkt bs n,0,0)
def decP (bs:List Int):Pkt×Int×Int :=
 if (padR (bs.drop (bodyAt bs))).2.2≠0 then (Pkt.zero,(bodyAt bs:Int)+(padR (bs.drop (bodyAt bs))).2.1,(padR (bs.drop (bodyAt bs))).2.2)
 else fin bs (padR (bs.drop (bodyAt bs))).1.toNat
def dec (bs:List Int):Pkt×Int×Int :=
 if (chk bs).2≠0 then (Pkt.zero,(chk bs).1,(chk bs).2) else
 if bs.getD 0 0 / 32 % 2=1 then decP bs else fin bs 0
end Pk
open Go.RowKit
attribute [local go_sem] zaa zad
section
variable (A:Option Addr) (bs:List Int) (c:Nat) (w:World)
end
open Go.RowKit
attribute [local go_sem] zaa zad
def Pk.Pkt.row (r:Pk.Pkt) (Mx:Option Addr) (cm:Nat) (Et:Option Addr) (ce:Nat) (Pl:Option Addr) (cp:Nat):List Value:=[.bool r.mark, .int .u8 r.ty, .int .u16 r.sq, .int .u32 r.ti, .int .u32 r.so, .slice Mx r.mx.length cm, .bool r.ex, .int .u16 r.ek, .slice Et r.et.length ce, .slice Pl r.pl.length cp, .int .i64 r.pad]
def PDecR (R:Pk.Pkt×Int×Int) (w:World) (e:Ending) (w':World):Prop :=
 ∃ (Mx:Option Addr) (cm:Nat) (Et:Option Addr) (ce:Nat) (Pl:Option Addr) (cp:Nat),e = .returned (.tuple #[.agg (R.1.row Mx cm Et ce Pl cp).toArray, .int .i64 R.2.1, .int .u8 R.2.2])∧IntsNew w.heap.size w' .u32 Mx R.1.mx∧IntsNew w.heap.size w' .u8 Et R.1.et∧IntsNew w.heap.size w' .u8 Pl R.1.pl∧Bel w w'
def PDecRC (R:Pk.Pkt×Int×Int) (w:World) (e:Ending) (w':World):Prop :=
 ∃ (Mx:Option Addr) (cm:Nat) (Et:Option Addr) (ce:Nat) (Pl:Option Addr) (cp:Nat),e = .returned (.tuple #[.agg (R.1.row Mx cm Et ce Pl cp).toArray, .int .i64 R.2.1, .int .u8 R.2.2])∧R.1.pl.length≤cp∧IntsNew w.heap.size w' .u32 Mx R.1.mx∧IntsNew w.heap.size w' .u8 Et R.1.et∧IntsNew w.heap.size w' .u8 Pl R.1.pl∧Bel w w'
theorem IntsNew.only {g n:Nat} {w w':World} {k:IntKind} {A:Option Addr} {zs:List Int} (h:IntsNew n w k A zs) (ho:Only g w w') (hg:g<n):IntsNew n w' k A zs:=by
 refine ⟨fun h0 => ?_,h.2⟩
 obtain ⟨b,off,rfl,hb,hc⟩:=h.1 h0
 refine ⟨b,off,rfl,by rw [ho.2];exact hb,fun i hi=>ho.cell (hc i hi) ?_⟩
 have:=h.2 h0 b off rfl
 simp only
 omega
theorem zrp {w w':World} {base size n c g:Nat} {e:TypeId} {A:Option Addr} {xs:List Value} (h:Owns w base e size A n c xs) (ho:Only g w w') (hg:g<base):Owns w' base e size A n c xs :=
 h.grown ho.1 (fun b e2 e3=>by injection e3 with e3;have:=(h.block b e2).1;omega)
structure PState (w wx:World) (b off c:Nat) (bs:List Int) (p:Nat) (row:List Value) (Mx:Option Addr) (mx:List Int) (Et:Option Addr) (et:List Int):Prop where
 ints:IntsAt w w.heap.size .u8 (some ⟨b,off,none⟩) bs
 bytes:Within 0 255 bs
 len:bs.length≤100000
 cap:bs.length≤c
 hr:Blk wx (w.heap.size+2) 112 row.toArray
 hg:∃ o',Blk wx (w.heap.size+1) 69 #[.slice (some ⟨b,o',none⟩) (bs.length-p) (c-p)]∧(p<c→o'=off+p)
 hz:Blk wx w.heap.size 112 #[.bool false, .int .u8 0, .int .u16 0, .int .u32 0, .int .u32 0, .slice none 0 0, .bool false, .int .u16 0, .slice none 0 0, .slice none 0 0, .int .i64 0]
 hu:Bel w wx
 hs:w.heap.size+3≤wx.heap.size
 hm:IntsNew (w.heap.size+3) wx .u32 Mx mx
 he:IntsNew (w.heap.size+3) wx .u8 Et et
section
variable {w wx w':World} {b off c p:Nat} {bs:List Int} {row:List Value} {Mx Et:Option Addr} {mx et:List Int}
theorem PState.grown (h:PState w wx b off c bs p row Mx mx Et et) {r:Option Nat} (hg:wx.grownBy w' r) (hr:∀ g,r=some g→w.heap.size+3≤g) (hm:IntsNew (w.heap.size+3) w' .u32 Mx mx) (he:IntsNew (w.heap.size+3) w' .u8 Et et):PState w w' b off c bs p row Mx mx Et et :=
 have hne:∀ g,g<w.heap.size+3→some g≠r:=fun g hlt e=>by have:=hr g e.symm;omega
 ⟨h.ints,h.bytes,h.len,h.cap,h.hr.grown hg (hne _ (by omega)),let ⟨o',hb,ho⟩:=h.hg; ⟨o',hb.grown hg (hne _ (by omega)),ho⟩,h.hz.grown hg (hne _ (by omega)),Below.grown h.hu hg h.hu.size (fun g e=>by have:=hr g e;omega),Nat.le_trans h.hs hg.size,hm,he⟩
theorem PState.later (h:PState w wx b off c bs p row Mx mx Et et) (hb:Below wx.heap.size wx w'):PState w w' b off c bs p row Mx mx Et et :=
 ⟨h.ints,h.bytes,h.len,h.cap,h.hr.later hb,let ⟨o',hg,ho⟩:=h.hg; ⟨o',hg.later hb,ho⟩,h.hz.later hb,h.hu.later hb,Nat.le_trans h.hs hb.size,h.hm.later hb,h.he.later hb⟩
theorem PState.push (h:PState w wx b off c bs p row Mx mx Et et) (o:Obj):PState w (wx.alloc o) b off c bs p row Mx mx Et et :=
 h.later ((Below.refl _ _).alloc (Nat.le_refl _) o)
theorem PState.drew (h:PState w wx b off c bs p row Mx mx Et et):PState w wx.drew b off c bs p row Mx mx Et et:=⟨h.ints,h.bytes,h.len,h.cap,h.hr,h.hg,h.hz,Bel.drew h.hu,h.hs,h.hm,h.he⟩
theorem PState.set (h:PState w wx b off c bs p row Mx mx Et et) (i:Nat) (v:Value):PState w (wx.setCell ⟨w.heap.size+2,i,none⟩ v) b off c bs p (row.set i v) Mx mx Et et :=
 ⟨h.ints,h.bytes,h.len,h.cap,by have:=h.hr.set_ i v;simpa using this,let ⟨o',hg,ho⟩:=h.hg; ⟨o',hg.far (by simp) v,ho⟩,h.hz.far (by simp) v,zaj h.hu (by simp) v,by have:=h.hs;simpa [World.setCell] using this,h.hm.setCell (by simp) v,h.he.setCell (by simp) v⟩
theorem PState.setM (h:PState w wx b off c bs p row Mx mx Et et) {Mx':Option Addr} {mx':List Int} (hm:IntsNew (w.heap.size+3) wx .u32 Mx' mx'):PState w wx b off c bs p row Mx' mx' Et et :=
 ⟨h.ints,h.bytes,h.len,h.cap,h.hr,h.hg,h.hz,h.hu,h.hs,hm,h.he⟩
def PNext (b off n:Nat) (bs:List Int) (p q:Nat) (S:World→Nat→Prop) (w wx:World) (e:Ending) (w':World):Prop :=
 ∃ A':Option Addr,e = .returned (.slice A' n n)∧(0<n→A'=some ⟨b,off+p,none⟩)∧Only (w.heap.size+1) wx w'∧Hid (IntsAt w' w.heap.size .u8 A' ((bs.drop p).take n))∧Hid (S w' q)
theorem PState.next (h:PState w wx b off c bs p row Mx mx Et et) (n q:Nat) (hq:p+n=q) (hl:q≤bs.length) :
 Calls Tryz.prog 55 #[.int .i64 n, .pointer (some ⟨w.heap.size+1,0,none⟩)] wx (PNext b off n bs p q (fun w' q=>PState w w' b off c bs q row Mx mx Et et) w wx):=by
 subst hq
 obtain ⟨o',hg,ho'⟩:=h.hg
 have hlen:=h.len
 have hcap:=h.cap
 refine (zro (w.heap.size+1) b o' (bs.length-p) (c-p) n wx hg (by omega) (by omega) (by omega)).mono ?_
 rintro e w1 ⟨rfl,ho,o2,hg2,ho2⟩
 have hu1:Bel w w1:=ho.below h.hu (by omega)
 refine ⟨_,rfl,fun h0=>by rw [ho' (by omega)],ho,Z9 ?_,Z9 ⟨h.ints,h.bytes,h.len,h.cap,ho.blk h.hr (by omega),⟨o2,?_,fun hlt => ?_⟩,ho.blk h.hz (by omega),hu1,by rw [ho.2];exact h.hs,h.hm.only ho (by omega),h.he.only ho (by omega)⟩⟩
 · by_cases h0:n=0
   · subst h0;exact IntsAt.nil
   · rw [ho' (by omega)]
     exact (h.ints.sub p n (by omega)).below hu1
 · rw [show bs.length-(p+n)=bs.length-p-n by omega,show c-(p+n)=c-p-n by omega]
   exact hg2
 · rw [ho2 (by omega),ho' (by omega),Nat.add_assoc]
end
theorem PState.intsx {w wx:World} {b off c p:Nat} {bs:List Int} {row:List Value} {Mx Et:Option Addr} {mx et:List Int} (h:PState w wx b off c bs p row Mx mx Et et):IntsAt wx w.heap.size .u8 (some ⟨b,off,none⟩) bs:=h.ints.below h.hu
theorem PState.byte {w wx:World} {b off c p:Nat} {bs:List Int} {row:List Value} {Mx Et:Option Addr} {mx et:List Int} (h:PState w wx b off c bs p row Mx mx Et et) (i:Nat) (hi:i<bs.length):wx.cell? ⟨b,off+i,none⟩=some (.int .u8 (bs.getD i 0)):=by
 obtain ⟨b',off',e,_,hc⟩:=h.intsx (by omega)
 cases e
 exact hc i hi
theorem PState.start {w:World} {b off c:Nat} {bs:List Int} (hA:IntsAt w w.heap.size .u8 (some ⟨b,off,none⟩) bs) (hz:Within 0 255 bs) (hm:bs.length≤100000) (hc:bs.length≤c):PState w (((w.alloc (.cells #[.bool false, .int .u8 0, .int .u16 0, .int .u32 0, .int .u32 0, .slice none 0 0, .bool false, .int .u16 0, .slice none 0 0, .slice none 0 0, .int .i64 0] 112)).alloc (.cells #[.slice (some ⟨b,off,none⟩) bs.length c] 69)).alloc (.cells #[.bool false, .int .u8 0, .int .u16 0, .int .u32 0, .int .u32 0, .slice none 0 0, .bool false, .int .u16 0, .slice none 0 0, .slice none 0 0, .int .i64 0] 112)) b off c bs 0 [.bool false, .int .u8 0, .int .u16 0, .int .u32 0, .int .u32 0, .slice none 0 0, .bool false, .int .u16 0, .slice none 0 0, .slice none 0 0, .int .i64 0] none [] none [] :=
 ⟨hA,hz,hm,hc,Blk.new2 w _ _ _ _,⟨off,(Blk.new1 w _ _ _).push _,fun _=>rfl⟩,((Blk.new w _ _).push _).push _,(((Bel.refl w).push _).push _).push _,by simp,IntsNew.nil,IntsNew.nil⟩
theorem zwo (bs:List Int) (hz:Within 0 255 bs) (h:(Pk.chk bs).2=0):(Pk.chk bs).1=0∧12+4*Pk.many bs≤bs.length∧bs.getD 0 0 % 16=(Pk.many bs:Int)∧(Pk.ext bs=true→16+4*Pk.many bs+Pk.extN bs≤bs.length∧Pk.extN bs≤1020∧(Pk.extN bs:Int)=4*fld bs (14+4*Pk.many bs) 2):=by
 unfold Pk.chk at h ⊢
 by_cases h1:bs.length=0
 · rw [if_pos h1] at h;cases h
 rw [if_neg h1] at h ⊢
 obtain ⟨z0,z1⟩:=hz.at (i:=0) (by omega)
 by_cases h2:bs.getD 0 0 / 64≠2
 · rw [if_pos h2] at h;cases h
 rw [if_neg h2] at h ⊢
 by_cases h3:(bs.length:Int)<12+4*(bs.getD 0 0 % 16)
 · rw [if_pos h3] at h;cases h
 rw [if_neg h3] at h ⊢
 have hmm:bs.getD 0 0 % 16=(Pk.many bs:Int):=by unfold Pk.many;omega
 by_cases h4:bs.getD 0 0 / 16 % 2=0
 · rw [if_pos h4]
   refine ⟨rfl,by omega,hmm,fun he => ?_⟩
   have:=of_decide_eq_true he
   omega
 rw [if_neg h4] at h ⊢
 by_cases h5:(bs.length:Int)<12+4*(bs.getD 0 0 % 16)+4
 · rw [if_pos h5] at h;cases h
 rw [if_neg h5] at h ⊢
 have hmd:(bs.getD 0 0 % 16).toNat=Pk.many bs:=rfl
 rw [hmd,hmm] at h ⊢
 rw [hmm] at h3 h5
 obtain ⟨f0,f1⟩:=zia bs (14+4*Pk.many bs) 2 hz (by omega)
 by_cases h6:1020<4*fld bs (14+4*Pk.many bs) 2
 · rw [if_pos h6] at h;cases h
 rw [if_neg h6] at h ⊢
 have hxn:(Pk.extN bs:Int)=4*fld bs (14+4*Pk.many bs) 2:=by unfold Pk.extN;omega
 by_cases h7:(bs.length:Int)<12+4*(Pk.many bs:Int)+4+4*fld bs (14+4*Pk.many bs) 2
 · rw [if_pos h7] at h;cases h
 rw [if_neg h7] at h ⊢
 exact ⟨rfl,by omega,rfl,fun _=>⟨by omega,by omega,hxn⟩⟩
theorem zdm {W:World} {B b off:Nat} {bs:List Int} (hA:IntsAt W B .u8 (some ⟨b,off,none⟩) bs) (hz:Within 0 255 bs) (i m C:Nat) (hm:m≤4) (hl:i+m≤bs.length) :
 Calls Tryz.prog 56 #[.slice (some ⟨b,off+i,none⟩) m C] W fun e w'=>e = .returned (.int .u32 (fld bs i m))∧W=w' :=
 zca _ _ C W B (hA.sub i m hl) ((hz.drop i).take m) (by simp;omega) m (by simp;omega)
theorem zja {W:World} {B:Nat} {A:Option Addr} {bs:List Int} {p m:Nat} (hA:IntsAt W B .u8 A ((bs.drop p).take m)) (hz:Within 0 255 bs) (C:Nat) (hm:m≤4) (hl:p+m≤bs.length) :
 Calls Tryz.prog 56 #[.slice A m C] W fun e w'=>e = .returned (.int .u32 (fld bs p m))∧W=w' :=
 zca _ _ C W B hA ((hz.drop p).take m) (by simp;omega) m (by simp;omega)
theorem zmf {W:World} {B:Nat} {A:Option Addr} {l:List Int} (hA:IntsAt W B .u8 A l) (hB:B≤W.heap.size) (n C:Nat) (hn:l.length=n) (hl:n≤100000):Calls Tryz.prog 57 #[.slice A n C] W (CloneRC l W):=by
 subst hn
 by_cases h0:l.length=0
 · obtain rfl:=List.eq_nil_of_length_eq_zero h0
   exact zov A C W
 · exact zme A l C W (hA.more hB) hl (by omega)
theorem zrq (bs:List Int) (p:Nat) (hb:Within 0 255 bs) (hl:p+2≤bs.length):fld bs p 2 % 65536=fld bs p 2∧IntKind.u16.wrap (fld bs p 2)=fld bs p 2∧0≤fld bs p 2∧fld bs p 2≤65535:=by
 obtain ⟨h1,h2⟩:=zia bs p 2 hb hl
 have h2':fld bs p 2<65536:=h2
 have h:fld bs p 2 % 65536=fld bs p 2:=Int.emod_eq_of_lt h1 h2
 exact ⟨h,by rw [zkn,h],h1,by omega⟩
theorem zwp (x:Int) (x0:0≤x) (x1:x≤255):bits BinOp.and IntKind.u8 x 32=32*(x / 32 % 2):=by
 obtain ⟨n,rfl⟩:=Int.eq_ofNat_of_zero_le x0
 have h:∀ i:Fin 256,bits BinOp.and IntKind.u8 (i.val:Int) 32=32*((i.val:Int) / 32 % 2):=by decide +kernel
 exact h ⟨n,by omega⟩
theorem zuv (x:Int) (x0:0≤x) (x1:x≤255):bits BinOp.and IntKind.u8 x 127=x % 128:=by
 obtain ⟨n,rfl⟩:=Int.eq_ofNat_of_zero_le x0
 have h:∀ i:Fin 256,bits BinOp.and IntKind.u8 (i.val:Int) 127=(i.val:Int) % 128:=by decide +kernel
 exact h ⟨n,by omega⟩
theorem zuw (x:Int) (x0:0≤x) (x1:x≤255):(bits BinOp.and IntKind.u8 x 128 != 0)=decide (128≤x):=by
 obtain ⟨n,rfl⟩:=Int.eq_ofNat_of_zero_le x0
 have h:∀ i:Fin 256,(bits BinOp.and IntKind.u8 (i.val:Int) 128 != 0)=decide (128≤(i.val:Int)):=by decide +kernel
 exact h ⟨n,by omega⟩
theorem zrr:(Tryz.prog.info? 26).map (fun i=>(i.zero,i.size,i.bytes))=some (some (.int .u32 0),1,4):=by kernel_rfl
theorem PState.rest {w wx:World} {b off c p:Nat} {bs:List Int} {row:List Value} {Mx Et:Option Addr} {mx et:List Int} (h:PState w wx b off c bs p row Mx mx Et et):∃ o',Blk wx (w.heap.size+1) 69 #[.slice (some ⟨b,o',none⟩) (bs.length-p) (c-p)]∧IntsAt wx w.heap.size .u8 (some ⟨b,o',none⟩) (bs.drop p):=by
 obtain ⟨o',hg,ho⟩:=h.hg
 refine ⟨o',hg,?_⟩
 by_cases h0:p<bs.length
 · rw [ho (by have:=h.cap;omega)]
   have:=h.intsx.sub p (bs.length-p) (by omega)
   rwa [List.take_of_length_le (by simp)] at this
 · rw [List.drop_eq_nil_of_le (by omega)]
   exact IntsAt.nil
def u32s (l:List Int):List Value:=l.map (Value.int .u32)
open Go.RowKit
attribute [local go_sem] zaa zad
section
variable (A:Option Addr) (bs:List Int) (c:Nat) (w:World)
end
section
variable (A:Option Addr) (bs:List Int) (c:Nat) (w:World)
theorem zrs (hA:IntsAt w w.heap.size .u8 A bs) (hz:Within 0 255 bs) (hm:bs.length≤100000) (hc:bs.length≤c) (h:(Pk.chk bs).2=0) (he:Pk.ext bs=false) (hp:bs.getD 0 0 / 32 % 2=0):Calls Tryz.prog 25 #[.slice A bs.length c] w (PDecRC (Pk.fin bs 0) w):=by
 obtain ⟨hc1,hl12,hmm,hx⟩:=zwo bs hz h
 obtain ⟨b,off,rfl,hbB,qc⟩:=hA (by omega)
 have k1:=zha (some ⟨b,off,none⟩) bs c (w.alloc (.cells #[.bool false, .int .u8 0, .int .u16 0, .int .u32 0, .int .u32 0, .slice none 0 0, .bool false, .int .u16 0, .slice none 0 0, .slice none 0 0, .int .i64 0] 112)) (hA.push _) hz hm hc
 rw [hc1,h] at k1
 have D:=Z9 (PState.start hA hz hm hc)
 have K:=Z9 k1
 have HX:=Z9 hx
 obtain ⟨m0,n0⟩:=hz.at (i:=0) (by omega)
 obtain ⟨m1,n1⟩:=hz.at (i:=1) (by omega)
 obtain ⟨mm,hmq⟩:∃ mm,mm=Pk.many bs:=⟨_,rfl⟩
 rw [← hmq] at hmm hl12
 have HMQ:=Z9 hmq
 have HE:=Z9 he
 obtain ⟨x0,hx0⟩:∃ x,x=bs.getD 0 0:=⟨_,rfl⟩
 obtain ⟨x1,hx1⟩:∃ x,x=bs.getD 1 0:=⟨_,rfl⟩
 rw [← hx0] at m0 n0 hmm hp
 rw [← hx1] at m1 n1
 have k15:=zex x0 m0 n0
 have k16:=zey x0 m0 n0
 have k32:=zwp x0 m0 n0
 have k127:=zuv x1 m1 n1
 have k128:=zuw x1 m1 n1
 obtain ⟨mk,hmk⟩:∃ mk,mk=decide (128≤x1):=⟨_,rfl⟩
 rw [← hmk] at k128
 rw [hmm] at k15
 rw [hp] at k32
 have he':x0 / 16 % 2=0:=by
  have h7:=HE.out
  unfold Pk.ext at h7
  rw [← hx0] at h7
  have:=of_decide_eq_false h7;omega
 rw [he'] at k16
 have HX0:=Z9 hx0
 have HX1:=Z9 hx1
 have HMK:=Z9 hmk
 have hmb:mm≤15:=by omega
 have hlen:=Z9 hm
 have hcap:=Z9 hc
 have hbb:b<w.heap.size+1:=by omega
 have hbc:b<w.heap.size+1+1:=by omega
 have hne:¬b=w.heap.size+2:=by omega
 clear hA hz hm hc qc k1 hx hc1 h hmq he hx0 hx1 hmk hmm hp he'
 go_enter Tryz.func25,Tryz.ntmps25
 go_wp2_with fail
 refine K.out.mono ?_
 rintro e w1 ⟨rfl,rfl⟩
 clear K
 go_wp2_with fail
 refine (D.out.next 12 12 rfl (by omega)).mono ?_
 rintro e v1 ⟨A',rfl,hA',ho,hI,D'⟩
 obtain rfl:A'=some ⟨b,off,none⟩:=hA' (by omega)
 clear D hA' ho hI
 have D:=D'
 clear D'
 have q0:v1.cell? ⟨b,off,none⟩=some (.int .u8 x0):=by rw [HX0.out];exact D.out.byte 0 (by omega)
 have q1:v1.cell? ⟨b,off+1,none⟩=some (.int .u8 x1):=by rw [HX1.out];exact D.out.byte 1 (by omega)
 have z:=D.out.hr.frozen
 have r0:=D.out.hr.at 0 _ rfl
 have r1:=D.out.hr.at 1 _ rfl
 have r6:=D.out.hr.at 6 _ rfl
 go_wp2_with fail
 clear z r0 r1 r6
 have D':Hid (PState w _ b off c bs 12 [.bool mk, .int .u8 (x1 % 128), .int .u16 0, .int .u32 0, .int .u32 0, .slice none 0 0, .bool false, .int .u16 0, .slice none 0 0, .slice none 0 0, .int .i64 0] none [] none []):=Z9 (((D.out.set 6 (.bool false)).set 0 (.bool mk)).set 1 (.int .u8 (x1 % 128)))
 clear D
 have D:=D'
 clear D'
 obtain ⟨u1,u2,u3,u4⟩:=zrq bs 2 D.out.bytes (by omega)
 refine (zdm D.out.intsx D.out.bytes 2 2 _ (by omega) (by omega)).mono ?_
 rintro e w1 ⟨rfl,rfl⟩
 have z:=D.out.hr.frozen
 have r2:=D.out.hr.at 2 _ rfl
 go_wp2_with fail
 clear z r2 u1 u2 u3 u4
 have D':Hid (PState w _ b off c bs 12 [.bool mk, .int .u8 (x1 % 128), .int .u16 (fld bs 2 2), .int .u32 0, .int .u32 0, .slice none 0 0, .bool false, .int .u16 0, .slice none 0 0, .slice none 0 0, .int .i64 0] none [] none []):=Z9 (D.out.set 2 (.int .u16 (fld bs 2 2)))
 clear D
 have D:=D'
 clear D'
 refine (zdm D.out.intsx D.out.bytes 4 4 _ (by omega) (by omega)).mono ?_
 rintro e w1 ⟨rfl,rfl⟩
 have z:=D.out.hr.frozen
 have r3:=D.out.hr.at 3 _ rfl
 go_wp2_with fail
 clear z r3
 have D':Hid (PState w _ b off c bs 12 [.bool mk, .int .u8 (x1 % 128), .int .u16 (fld bs 2 2), .int .u32 (fld bs 4 4), .int .u32 0, .slice none 0 0, .bool false, .int .u16 0, .slice none 0 0, .slice none 0 0, .int .i64 0] none [] none []):=Z9 (D.out.set 3 (.int .u32 (fld bs 4 4)))
 clear D
 have D:=D'
 clear D'
 refine (zdm D.out.intsx D.out.bytes 8 4 _ (by omega) (by omega)).mono ?_
 rintro e w1 ⟨rfl,rfl⟩
 have z:=D.out.hr.frozen
 have r4:=D.out.hr.at 4 _ rfl
 go_wp2_with fail
 clear z r4
 have D':Hid (PState w _ b off c bs 12 [.bool mk, .int .u8 (x1 % 128), .int .u16 (fld bs 2 2), .int .u32 (fld bs 4 4), .int .u32 (fld bs 8 4), .slice none 0 0, .bool false, .int .u16 0, .slice none 0 0, .slice none 0 0, .int .i64 0] none [] none []):=Z9 (D.out.set 4 (.int .u32 (fld bs 8 4)))
 clear D
 have D:=D'
 clear D'
 go_loopg [68] mm (fun gk s68 wr => ∃ (k:Nat) (A':Option Addr) (c':Nat),gk+k=mm∧s68 = .int .u8 k∧Hid (PState w wr b off c bs (12+4*k) [.bool mk, .int .u8 (x1 % 128), .int .u16 (fld bs 2 2), .int .u32 (fld bs 4 4), .int .u32 (fld bs 8 4), .slice A' k c', .bool false, .int .u16 0, .slice none 0 0, .slice none 0 0, .int .i64 0] none [] none [])∧Hid (Owns wr (w.heap.size+3) 26 1 A' k c' (u32s ((List.range k).map fun i=>fld bs (12+4*i) 4))))
 case atStart=>exact ⟨0,none,0,rfl,rfl,D,Z9 Owns.nil⟩
 case round =>
  clear D q0 q1
  obtain ⟨k,A',c',hgk,rfl,D,HO⟩:=hrel
  by_cases hlt:k<mm
  · obtain ⟨q,hq⟩:∃ q,q=12+4*k:=⟨_,rfl⟩
    rw [← hq] at D
    have hql:q+4≤bs.length:=by omega
    have HQ:=Z9 hq
    clear hq
    have hi1:(k:Int)<(mm:Int):=by omega
    have hi2:((k:Int)+1) % 256=(k:Int)+1:=by omega
    have hi3:IntKind.u8.wrap ((k:Int)+1)=(k:Int)+1:=by rw [ziz];omega
    have r5:=D.out.hr.at 5 _ rfl
    have hs:=D.out.hs
    go_wp2_with fail
    go_region_law (first
     | (refine zem 76 (by rfl) (by rfl) _ _ 84 (by rfl) (w.heap.size+3) 26 1 4 _ Tryz.underlying84 zrr rfl (by decide) A' k c' _ (by rfl) (Owns.alloc HO2 _) v1.heap.size [.int .u32 (fld bs q 4)] rfl (by simp [Value.oneCell']) (by rfl) (Blk.new v1 _ _) (by unfold maxLen;omega) (by omega) (by simp;omega) ?_;intro An cn wn qo hgr;have D3:=(D2.push _).grown hgr (fun g e=>(HO2.block g e).1) IntsNew.nil IntsNew.nil;have r5':=D3.hr.at 5 _ rfl;have z':=D3.hr.frozen)
     | (go_simp;go_at_call 55;refine (D.out.drew.next 4 (q+4) rfl hql).mono ?_;rintro e v1 ⟨A4,rfl,hA4,ho,hI,hD⟩;clear hA4;have D2:=hD.out;have HO2:=zrp HO.out.drew ho (by omega);have hs2:=D2.hs;have r5'':v1.cell? ⟨w.heap.size+1+1,5,none⟩=some (.slice A' k c'):=D2.hr.at 5 _ rfl;have h2s':w.heap.size+1+1<v1.heap.size:=by omega)
     | (go_simp;go_at_call 56;refine (zja hI.out D2.bytes _ (by omega) hql).mono ?_;rintro e v2 ⟨rfl,rfl⟩))
    all_goals
     go_wp2_with fail
     go_roundg (gk-1)
     case measure=>omega
     case rel =>
      refine ⟨k+1,An,cn,by omega,by go_num,?_,?_⟩
      · have e:12+4*(k+1)=q+4:=by have:=HQ.out;omega
        rw [e]
        exact Z9 (D3.set 5 (.slice An (k+1) cn))
      · have e:u32s ((List.range (k+1)).map fun i=>fld bs (12+4*i) 4)=u32s ((List.range k).map fun i=>fld bs (12+4*i) 4) ++ [.int .u32 (fld bs q 4)]:=by
         rw [HQ.out]
         simp [u32s,List.range_succ]
        rw [e]
        exact Z9 (qo.setCell (p:=⟨w.heap.size+2,5,none⟩) (fun g e=>by have:=(qo.block g e).1;simp only;omega) _)
  · obtain rfl:k=mm:=by omega
    have hi1:(k:Int)≤(k:Int):=Int.le_refl _
    obtain ⟨mx,hmx⟩:∃ mx,mx=(List.range k).map fun i=>fld bs (12+4*i) 4:=⟨_,rfl⟩
    have HML:Hid (mx.length=k):=Z9 (by rw [hmx];simp)
    have D':=Z9 (D.out.setM (IntsNew.of_own (B:=w.heap.size+3) HO.out (Nat.le_refl _)))
    rw [← hmx] at D'
    clear D HO
    have D:=D'
    clear D'
    have HMX:=Z9 hmx
    clear hmx hgk k15 k16 k32 k127 k128 m0 n0 m1 n1
    obtain ⟨q,hq⟩:∃ q,q=12+4*k:=⟨_,rfl⟩
    rw [← hq] at D
    have hlq:q≤bs.length:=by omega
    have HQ:=Z9 hq
    clear hl12 hlt
    have r6:=D.out.hr.at 6 _ rfl
    go_upto_region 22 with fail
    clear r6
    obtain ⟨Q,hQ⟩:∃ Q,Q=q:=⟨_,rfl⟩
    have HQB:Hid (Q=Pk.bodyAt bs):=Z9 (by unfold Pk.bodyAt;rw [HE.out,if_neg (by decide),← HMQ.out,hQ,hq])
    rw [← hQ] at D
    have hlQ:Q≤bs.length:=by omega
    clear hQ hq
    obtain ⟨L,hL⟩:∃ L,L=bs.length-Q:=⟨_,rfl⟩
    have hLQ:L+Q=bs.length:=by omega
    have hL5:L≤100000:=by have:=hlen.out;omega
    obtain ⟨o',hgb,hrest⟩:=D.out.rest
    rw [← hL] at hgb
    obtain ⟨C,hC⟩:∃ C,C=c-Q:=⟨_,rfl⟩
    rw [← hC] at hgb
    have g0:=hgb.at 0 _ rfl
    have HL:=Z9 hL
    have HLQ:=Z9 hLQ
    have HR:=Z9 hrest
    clear hgb hL hC hrest hlQ hLQ
    obtain ⟨M,hM⟩:∃ M,M=L:=⟨_,rfl⟩
    have HM:=Z9 hM
    have hML:M≤L:=by omega
    have hMQ:Q+M≤bs.length:=by have:=HLQ.out;omega
    subst hM
    have z:=D.out.hr.frozen
    have r10:=D.out.hr.at 10 _ rfl
    by_cases hlim:1500<M
    · have hl1:(1500:Int)<(M:Int):=by omega
      go_wp2_with fail
      clear z r10
      have hb1:(bs.length:Int)≤100000:=by have:=hlen.out;omega
      have hb2:(M:Int)≤(bs.length:Int):=by have:=HLQ.out;omega
      have z:=D.out.hz.frozen
      have y0:=D.out.hz.at 0 _ rfl
      have y1:=D.out.hz.at 1 _ rfl
      have y2:=D.out.hz.at 2 _ rfl
      have y3:=D.out.hz.at 3 _ rfl
      have y4:=D.out.hz.at 4 _ rfl
      have y5:=D.out.hz.at 5 _ rfl
      have y6:=D.out.hz.at 6 _ rfl
      have y7:=D.out.hz.at 7 _ rfl
      have y8:=D.out.hz.at 8 _ rfl
      have y9:=D.out.hz.at 9 _ rfl
      have y10:=D.out.hz.at 10 _ rfl
      go_region
      all_goals
       go_wp2_with fail
       have BF:=(Blk.setRow D.out.hz [.bool false, .int .u8 0, .int .u16 0, .int .u32 0, .int .u32 0, .slice none 0 0, .bool false, .int .u16 0, .slice none 0 0, .slice none 0 0, .int .i64 0] rfl).drew
       have UF:=Bel.drew (below_setRow (g:=w.heap.size) (Nat.le_refl _) [.bool false, .int .u8 0, .int .u16 0, .int .u32 0, .int .u32 0, .slice none 0 0, .bool false, .int .u16 0, .slice none 0 0, .slice none 0 0, .int .i64 0] _ 0 D.out.hu)
       simp only [setRow,Nat.zero_add,Nat.reduceAdd] at BF UF
       have hfin:Pk.fin bs 0=Pk.fin bs 0:=by
        rfl
       have hval:Pk.fin bs 0=(Pk.Pkt.zero,(bs.length:Int)-M,4):=by
        unfold Pk.fin
        have h1:=HLQ.out
        have h2:=HM.out
        rw [← HQB.out,if_pos (by omega)]
        have e:(Q:Int)=(bs.length:Int)-M:=by omega
        rw [e]
       rw [hfin,hval]
       exact bodyPost_ret (v := .tuple #[.agg #[.bool false, .int .u8 0, .int .u16 0, .int .u32 0, .int .u32 0, .slice none 0 0, .bool false, .int .u16 0, .slice none 0 0, .slice none 0 0, .int .i64 0], .int .i64 ((bs.length:Int)-M), .int .u8 4]) (zax Tryz.results25 rfl (run_loadVar_row (P:=Tryz.prog) _ _ _ _ _ _ _ BF Tryz.underlying112 rfl (by kernel_rfl)) rfl rfl) rfl ⟨none,0,none,0,none,0,rfl,Nat.le_refl _,IntsNew.nil,IntsNew.nil,IntsNew.nil,UF⟩
    · have hl1:(M:Int)≤1500:=by omega
      go_wp2_with fail
      clear g0
      clear z r10
      refine (D.out.next M (Q+M) rfl hMQ).mono ?_
      rintro e v6 ⟨A6,rfl,hA6,ho,hI,D'⟩
      clear D hA6 ho
      have D:=D'
      clear D'
      go_wp2_with fail
      have hpl:((bs.drop Q).take M).length=M:=by have:=HLQ.out;simp;omega
      refine (zmf hI.out D.out.hu.size M _ hpl (by omega)).mono ?_
      obtain ⟨pl,hpp⟩:∃ pl,pl=(bs.drop Q).take M:=⟨_,rfl⟩
      have HPP:=Z9 hpp
      rw [← hpp] at hpl ⊢
      have HPL:=Z9 hpl
      clear hpl hpp hI
      rintro e v7 ⟨A7,c7,rfl,hc7,hI,hB⟩
      rw [HPL.out]
      have HC7:=Z9 hc7
      clear hc7
      have D':=Z9 (D.out.later hB)
      have HI7:=Z9 (hI.less D.out.hs)
      clear D hI hB
      have D:=D'
      clear D'
      have z:=D.out.hr.frozen
      have r0:=D.out.hr.at 0 _ rfl
      have r1:=D.out.hr.at 1 _ rfl
      have r2:=D.out.hr.at 2 _ rfl
      have r3:=D.out.hr.at 3 _ rfl
      have r4:=D.out.hr.at 4 _ rfl
      have r5:=D.out.hr.at 5 _ rfl
      have r6:=D.out.hr.at 6 _ rfl
      have r7:=D.out.hr.at 7 _ rfl
      have r8:=D.out.hr.at 8 _ rfl
      have r9:=D.out.hr.at 9 _ rfl
      have r10:=D.out.hr.at 10 _ rfl
      have y:=D.out.hz.frozen
      have y0:=D.out.hz.at 0 _ rfl
      have y1:=D.out.hz.at 1 _ rfl
      have y2:=D.out.hz.at 2 _ rfl
      have y3:=D.out.hz.at 3 _ rfl
      have y4:=D.out.hz.at 4 _ rfl
      have y5:=D.out.hz.at 5 _ rfl
      have y6:=D.out.hz.at 6 _ rfl
      have y7:=D.out.hz.at 7 _ rfl
      have y8:=D.out.hz.at 8 _ rfl
      have y9:=D.out.hz.at 9 _ rfl
      have y10:=D.out.hz.at 10 _ rfl
      go_wp2_with fail
      clear z r0 r1 r2 r3 r4 r5 r6 r7 r8 r9 r10 y y0 y1 y2 y3 y4 y5 y6 y7 y8 y9 y10
      have D':Hid (PState w _ b off c bs (Q+M) [.bool mk, .int .u8 (x1 % 128), .int .u16 (fld bs 2 2), .int .u32 (fld bs 4 4), .int .u32 (fld bs 8 4), .slice A' k c', .bool false, .int .u16 0, .slice none 0 0, .slice A7 M c7, .int .i64 0] A' mx none []):=Z9 (D.out.set 9 (.slice A7 M c7))
      have HI8:=HI7.out.setCell (p:=⟨w.heap.size+2,9,none⟩) (by simp) (.slice A7 M c7)
      have BF:=Blk.setRow D'.out.hz [.bool mk, .int .u8 (x1 % 128), .int .u16 (fld bs 2 2), .int .u32 (fld bs 4 4), .int .u32 (fld bs 8 4), .slice A' k c', .bool false, .int .u16 0, .slice none 0 0, .slice A7 M c7, .int .i64 0] rfl
      have UF:=below_setRow (g:=w.heap.size) (Nat.le_refl _) [.bool mk, .int .u8 (x1 % 128), .int .u16 (fld bs 2 2), .int .u32 (fld bs 4 4), .int .u32 (fld bs 8 4), .slice A' k c', .bool false, .int .u16 0, .slice none 0 0, .slice A7 M c7, .int .i64 0] _ 0 D'.out.hu
      have R1:=(IntsNew.setRow (g:=w.heap.size) (n:=w.heap.size+3) (by omega) [.bool mk, .int .u8 (x1 % 128), .int .u16 (fld bs 2 2), .int .u32 (fld bs 4 4), .int .u32 (fld bs 8 4), .slice A' k c', .bool false, .int .u16 0, .slice none 0 0, .slice A7 M c7, .int .i64 0] _ 0 D'.out.hm).less (m:=w.heap.size) (by omega)
      have R2:=(IntsNew.setRow (g:=w.heap.size) (n:=w.heap.size+3) (by omega) [.bool mk, .int .u8 (x1 % 128), .int .u16 (fld bs 2 2), .int .u32 (fld bs 4 4), .int .u32 (fld bs 8 4), .slice A' k c', .bool false, .int .u16 0, .slice none 0 0, .slice A7 M c7, .int .i64 0] _ 0 D'.out.he).less (m:=w.heap.size) (by omega)
      have R3:=(IntsNew.setRow (g:=w.heap.size) (n:=w.heap.size+3) (by omega) [.bool mk, .int .u8 (x1 % 128), .int .u16 (fld bs 2 2), .int .u32 (fld bs 4 4), .int .u32 (fld bs 8 4), .slice A' k c', .bool false, .int .u16 0, .slice none 0 0, .slice A7 M c7, .int .i64 0] _ 0 HI8).less (m:=w.heap.size) (by omega)
      simp only [setRow,Nat.zero_add,Nat.reduceAdd] at BF UF R1 R2 R3
      have hfin:Pk.fin bs 0=Pk.fin bs 0:=by
       rfl
      have hval:Pk.fin bs 0=(⟨mk,x1 % 128,fld bs 2 2,fld bs 4 4,fld bs 8 4,mx,false,0,[],pl,0⟩,0,0):=by
       unfold Pk.fin Pk.pkt
       have h1:=HLQ.out
       have h2:=HM.out
       have h3:=HL.out
       rw [← HQB.out,if_neg (by omega),← HMQ.out,HE.out,← HX1.out,← HMK.out,← HMX.out,if_neg (by decide),if_neg (by decide)]
       have e:bs.length-Q-0=M:=by omega
       rw [e,← HPP.out]
       all_goals rfl
      rw [hfin,hval]
      exact bodyPost_ret (v := .tuple #[.agg #[.bool mk, .int .u8 (x1 % 128), .int .u16 (fld bs 2 2), .int .u32 (fld bs 4 4), .int .u32 (fld bs 8 4), .slice A' k c', .bool false, .int .u16 0, .slice none 0 0, .slice A7 M c7, .int .i64 0], .int .i64 0, .int .u8 0]) (zax Tryz.results25 rfl (run_loadVar_row (P:=Tryz.prog) _ _ _ _ _ _ _ BF Tryz.underlying112 rfl (by kernel_rfl)) rfl rfl) rfl ⟨A',c',none,0,A7,c7,by simp only [Pk.Pkt.row,HML.out,HPL.out,List.length_nil],HC7.out,R1,R2,R3,UF⟩
end
end Go.Proofs.YtbcgnddpkiemoaaGreat
namespace Go.Proofs.YtbcgnddpkiemoaaGreat
open Go.RowKit
namespace Pk
structure Good (p:Pkt):Prop where
 ty0:0≤p.ty
 ty1:p.ty≤127
 sq:0≤p.sq∧p.sq≤65535
 ti:0≤p.ti∧p.ti≤4294967295
 so:0≤p.so∧p.so≤4294967295
 ek:0≤p.ek∧p.ek≤65535
 mx:Within 0 4294967295 p.mx
 et:Within 0 255 p.et
 pl:Within 0 255 p.pl
 pad0:0≤p.pad
 pad1:p.pad≤255
 noex:p.ex=false→p.ek=0∧p.et=[]
 et4:p.et.length % 4=0
 lmx:p.mx.length≤15
 let_:p.et.length≤1020
 lpl:p.pl.length≤1500
theorem Good.of {p:Pkt} (h:err p=0) (ty0:0≤p.ty) (sq:0≤p.sq∧p.sq≤65535) (ti:0≤p.ti∧p.ti≤4294967295) (so:0≤p.so∧p.so≤4294967295) (ek:0≤p.ek∧p.ek≤65535) (mx:Within 0 4294967295 p.mx) (et:Within 0 255 p.et) (pl:Within 0 255 p.pl):Good p:=by
 unfold err at h
 by_cases h1:127<p.ty∨p.pad<0∨255<p.pad
 · rw [if_pos h1] at h;cases h
 rw [if_neg h1] at h
 by_cases h2:p.ex=false∧(p.ek≠0∨0<p.et.length)∨p.et.length % 4≠0
 · rw [if_pos h2] at h;cases h
 rw [if_neg h2] at h
 by_cases h3:15<p.mx.length∨1020<p.et.length∨1500<p.pl.length
 · rw [if_pos h3] at h;cases h
 refine ⟨ty0,by omega,sq,ti,so,ek,mx,et,pl,by omega,by omega,fun he => ?_,by omega,by omega,by omega,by omega⟩
 have h4:¬(p.ek≠0∨0<p.et.length):=fun h5=>h2 (Or.inl ⟨he,h5⟩)
 exact ⟨by omega,List.eq_nil_of_length_eq_zero (by omega)⟩
def x0 (p:Pkt):Int:=128+(p.mx.length:Int)+(if p.pad=0 then 0 else 32)+(if p.ex then 16 else 0)
def x1 (p:Pkt):Int:=p.ty+if p.mark then 128 else 0
def p12 (p:Pkt):List Int:=[x0 p,x1 p]++be 2 p.sq++be 4 p.ti++be 4 p.so
def extB (p:Pkt):List Int:=if p.ex then be 2 p.ek++be 2 ((p.et.length:Int) / 4)++p.et else []
def trail (p:Pkt):List Int:=if p.pad=0 then [] else List.replicate (p.pad-1).toNat 0 ++ [p.pad]
theorem zbe (p:Pkt):bytes p=p12 p++(p.mx.flatMap (be 4)++(extB p++(p.pl++trail p))):=by
 simp only [bytes,lead,tail,p12,extB,trail,x0,x1,List.append_assoc]
theorem zdn (p:Pkt):(p12 p).length=12:=by simp [p12,zbd]
theorem zbt:∀ l:List Int,(l.flatMap (be 4)).length=4*l.length
 | []=>rfl
 | a::l=>by simp [List.flatMap_cons,zbd,zbt l];omega
theorem zow (A C:List Int) (l:List Int) (i:Nat) (hi:i<l.length) (hl:Within 0 4294967295 l):fld (A++(l.flatMap (be 4)++C)) (A.length+4*i) 4=l.getD i 0:=by
 have hs:l=l.take i++(l.getD i 0::l.drop (i+1)):=by
  rw [List.getD_eq_getElem?_getD,List.getElem?_eq_getElem hi,Option.getD_some,← List.drop_eq_getElem_cons hi,List.take_append_drop]
 have he:A++(l.flatMap (be 4)++C)=(A++(l.take i).flatMap (be 4))++(be 4 (l.getD i 0)++((l.drop (i+1)).flatMap (be 4)++C)):=by
  have:l.flatMap (be 4)=(l.take i).flatMap (be 4)++(be 4 (l.getD i 0)++(l.drop (i+1)).flatMap (be 4)):=by
   conv=>lhs;rw [hs]
   rw [List.flatMap_append,List.flatMap_cons]
  rw [this]
  simp only [List.append_assoc]
 rw [he,zga _ _ _ _ _ (by rw [List.length_append,zbt,List.length_take];omega)]
 obtain ⟨z0,z1⟩:=hl.at hi
 exact Int.emod_eq_of_lt z0 (by have:(256:Int) ^ 4=4294967296:=rfl;omega)
section
variable {p:Pkt} (g:Good p)
theorem b0 (p:Pkt):(bytes p).getD 0 0=x0 p:=by rw [zbe];rfl
theorem b1 (p:Pkt):(bytes p).getD 1 0=x1 p:=by rw [zbe];rfl
theorem f2 (g:Good p):fld (bytes p) 2 2=p.sq:=by
 have:bytes p=[x0 p,x1 p]++(be 2 p.sq++(be 4 p.ti++(be 4 p.so++(p.mx.flatMap (be 4)++(extB p++(p.pl++trail p)))))):=by
  rw [zbe];simp only [p12,List.append_assoc]
 rw [this,zga _ _ 2 _ _ rfl]
 exact Int.emod_eq_of_lt g.sq.1 (by have:(256:Int) ^ 2=65536:=rfl;have:=g.sq.2;omega)
theorem f4 (g:Good p):fld (bytes p) 4 4=p.ti:=by
 have:bytes p=([x0 p,x1 p]++be 2 p.sq)++(be 4 p.ti++(be 4 p.so++(p.mx.flatMap (be 4)++(extB p++(p.pl++trail p))))):=by
  rw [zbe];simp only [p12,List.append_assoc]
 rw [this,zga _ _ _ _ _ (by simp [zbd])]
 exact Int.emod_eq_of_lt g.ti.1 (by have:(256:Int) ^ 4=4294967296:=rfl;have:=g.ti.2;omega)
theorem f8 (g:Good p):fld (bytes p) 8 4=p.so:=by
 have:bytes p=([x0 p,x1 p]++be 2 p.sq++be 4 p.ti)++(be 4 p.so++(p.mx.flatMap (be 4)++(extB p++(p.pl++trail p)))):=by
  rw [zbe];simp only [p12,List.append_assoc]
 rw [this,zga _ _ _ _ _ (by simp [zbd])]
 exact Int.emod_eq_of_lt g.so.1 (by have:(256:Int) ^ 4=4294967296:=rfl;have:=g.so.2;omega)
theorem fek (g:Good p) (he:p.ex=true):fld (bytes p) (12+4*p.mx.length) 2=p.ek:=by
 have:bytes p=(p12 p++p.mx.flatMap (be 4))++(be 2 p.ek++(be 2 ((p.et.length:Int) / 4)++p.et++(p.pl++trail p))):=by
  rw [zbe];simp only [extB,he,if_true,List.append_assoc]
 rw [this,zga _ _ _ _ _ (by rw [List.length_append,zdn,zbt])]
 exact Int.emod_eq_of_lt g.ek.1 (by have:(256:Int) ^ 2=65536:=rfl;have:=g.ek.2;omega)
theorem fen (g:Good p) (he:p.ex=true):fld (bytes p) (14+4*p.mx.length) 2=(p.et.length:Int) / 4:=by
 have:bytes p=(p12 p++p.mx.flatMap (be 4)++be 2 p.ek)++(be 2 ((p.et.length:Int) / 4)++(p.et++(p.pl++trail p))):=by
  rw [zbe];simp only [extB,he,if_true,List.append_assoc]
 rw [this,zga _ _ _ _ _ (by rw [List.length_append,List.length_append,zdn,zbt,zbd];omega)]
 have:=g.let_
 exact Int.emod_eq_of_lt (by omega) (by have:(256:Int) ^ 2=65536:=rfl;omega)
theorem zhb (p:Pkt):(extB p).length=if p.ex then 4+p.et.length else 0:=by
 unfold extB
 split
 · simp [zbd];omega
 · rfl
theorem zez (g:Good p):((trail p).length:Int)=p.pad:=by
 unfold trail
 have:=g.pad0
 split
 · simp;omega
 · simp;omega
theorem zcx (p:Pkt):(bytes p).length=12+4*p.mx.length+(extB p).length+p.pl.length+(trail p).length:=by
 rw [zbe]
 simp only [List.length_append,zdn,zbt]
 omega
theorem x0_facts (g:Good p):x0 p / 64=2∧x0 p % 16=(p.mx.length:Int)∧x0 p / 16 % 2=(if p.ex then 1 else 0)∧x0 p / 32 % 2=(if p.pad=0 then 0 else 1):=by
 have:=g.lmx
 unfold x0
 cases p.ex<;>by_cases h:p.pad=0<;>simp [h]<;>omega
theorem zfa (g:Good p):many (bytes p)=p.mx.length:=by unfold many;rw [b0,(x0_facts g).2.1];omega
theorem ext_eq (g:Good p):ext (bytes p)=p.ex:=by
 unfold ext
 rw [b0,(x0_facts g).2.2.1]
 cases p.ex<;>simp
theorem chk_bytes (g:Good p):chk (bytes p)=(0,0):=by
 obtain ⟨h1,h2,h3,h4⟩:=x0_facts g
 have hl:=zcx p
 unfold chk
 rw [if_neg (show ¬(bytes p).length=0 by omega),b0,if_neg (show ¬x0 p / 64≠2 by omega),h2,if_neg (show ¬((bytes p).length:Int)<12+4*(p.mx.length:Int) by omega),h3]
 cases he:p.ex with
 | false=>simp
 | true =>
   have e4:=g.et4
   have e5:=g.let_
   have hx:=zhb p
   rw [he,if_pos rfl] at hx
   rw [if_pos rfl,if_neg (by decide),if_neg (show ¬((bytes p).length:Int)<12+4*(p.mx.length:Int)+4 by omega),Int.toNat_natCast,fen g he,if_neg (show ¬1020<4*((p.et.length:Int) / 4) by omega),if_neg (show ¬((bytes p).length:Int)<12+4*(p.mx.length:Int)+4+4*((p.et.length:Int) / 4) by omega)]
theorem zox (g:Good p) (he:p.ex=true):extN (bytes p)=p.et.length:=by
 unfold extN
 rw [zfa g,fen g he]
 have:=g.et4
 omega
theorem zfb (g:Good p):bodyAt (bytes p)=12+4*p.mx.length+(extB p).length:=by
 unfold bodyAt
 rw [ext_eq g,zhb,zfa g]
 cases he:p.ex with
 | false=>simp
 | true=>rw [if_pos rfl,if_pos rfl,zox g he];omega
theorem zib (g:Good p):(bytes p).drop (bodyAt (bytes p))=p.pl++trail p:=by
 rw [zfb g,zbe,show p12 p++(p.mx.flatMap (be 4)++(extB p++(p.pl++trail p)))=(p12 p++p.mx.flatMap (be 4)++extB p)++(p.pl++trail p) by simp only [List.append_assoc]]
 rw [List.drop_left' (by rw [List.length_append,List.length_append,zdn,zbt])]
theorem zwq (g:Good p) (n:Nat) (hn:(n:Int)=p.pad):pkt (bytes p) n=p:=by
 have hl:=zcx p
 have ht:=zez g
 have hb:=zfb g
 have e1:decide (128≤(bytes p).getD 1 0)=p.mark:=by
  rw [b1];unfold x1
  have:=g.ty0;have:=g.ty1
  cases p.mark<;>simp<;>omega
 have e2:(bytes p).getD 1 0 % 128=p.ty:=by
  rw [b1];unfold x1
  have:=g.ty0;have:=g.ty1
  cases p.mark<;>simp<;>omega
 have e3:(List.range (many (bytes p))).map (fun i=>fld (bytes p) (12+4*i) 4)=p.mx:=by
  rw [zfa g]
  apply List.ext_getElem
  · simp
  · intro i h1 h2
    simp only [List.getElem_map,List.getElem_range]
    rw [zbe,show 12+4*i=(p12 p).length+4*i by rw [zdn],zow _ _ _ _ h2 g.mx]
    simp [List.getD_eq_getElem?_getD,h2]
 have e4:(if ext (bytes p) then fld (bytes p) (12+4*many (bytes p)) 2 else 0)=p.ek:=by
  rw [ext_eq g,zfa g]
  cases he:p.ex with
  | false=>exact (g.noex he).1.symm
  | true=>rw [if_pos rfl];exact fek g he
 have e5:(if ext (bytes p) then ((bytes p).drop (16+4*many (bytes p))).take (extN (bytes p)) else [])=p.et:=by
  rw [ext_eq g,zfa g]
  cases he:p.ex with
  | false=>exact (g.noex he).2.symm
  | true =>
    rw [if_pos rfl,zox g he]
    have:bytes p=(p12 p++p.mx.flatMap (be 4)++be 2 p.ek++be 2 ((p.et.length:Int) / 4))++(p.et++(p.pl++trail p)):=by
     rw [zbe];simp only [extB,he,if_true,List.append_assoc]
    rw [this,List.drop_left' (by simp only [List.length_append,zdn,zbt,zbd];omega),List.take_left]
 have e6:((bytes p).drop (bodyAt (bytes p))).take ((bytes p).length-bodyAt (bytes p)-n)=p.pl:=by
  rw [zib g,List.take_left' (by omega)]
 unfold pkt
 rw [e1,e2,f2 g,f4 g,f8 g,e3,e4,e5,e6,ext_eq g,hn]
theorem zko (l:List Int) (x:List Int):∀ (k i:Nat),i+k≤l.length+k→(∀ j,i≤j→j<i+k→x.getD j 0=0)→bad x i k=none
 | 0,i,_,_=>rfl
 | k + 1, i, h, hz => by
   unfold bad
   rw [if_pos (hz i (Nat.le_refl _) (by omega))]
   exact zko (l ++ [0]) x k (i+1) (by simp;omega) (fun j h1 h2=>hz j (by omega) (by omega))
theorem zmg (g:Good p) (h:p.pad≠0):padR (p.pl++trail p)=(p.pad,0,0):=by
 have h0:=g.pad0
 obtain ⟨N,hN⟩:∃ N:Nat,p.pad=(N:Int)+1:=⟨(p.pad-1).toNat,by omega⟩
 have ht:trail p=List.replicate N 0 ++ [(N:Int)+1]:=by
  unfold trail
  rw [if_neg h,hN]
  rw [show ((N:Int)+1-1).toNat=N by omega]
 have hlen:(p.pl++trail p).length=p.pl.length+N+1:=by rw [ht];simp;omega
 have hlast:(p.pl++trail p).getD ((p.pl++trail p).length-1) 0=(N:Int)+1:=by
  rw [hlen,ht]
  simp only [List.getD_eq_getElem?_getD]
  rw [List.getElem?_append_right (by omega),List.getElem?_append_right (by simp)]
  simp
 unfold padR
 rw [if_neg (show ¬(p.pl++trail p).length=0 by omega),hlast,if_neg (show ¬((N:Int)+1=0∨((p.pl++trail p).length:Int)<(N:Int)+1) by omega)]
 have hb:bad (p.pl++trail p) ((p.pl++trail p).length-((N:Int)+1).toNat) (((N:Int)+1).toNat-1)=none:=by
  rw [hlen,show ((N:Int)+1).toNat=N+1 by omega,show p.pl.length+N+1-(N+1)=p.pl.length by omega,show N+1-1=N by omega]
  refine zko p.pl _ N _ (by omega) (fun j h1 h2 => ?_)
  rw [ht]
  simp only [List.getD_eq_getElem?_getD]
  rw [List.getElem?_append_right h1,List.getElem?_append_left (by simp;omega)]
  simp [show j-p.pl.length<N by omega]
 rw [hb,hN]
 rfl
theorem dec_enc (g:Good p):dec (bytes p)=(p,0,0):=by
 obtain ⟨h1,h2,h3,h4⟩:=x0_facts g
 have hl:=zcx p
 have ht:=zez g
 have hb:=zfb g
 have hp:=g.lpl
 have hf:∀ n:Nat,(n:Int)=p.pad→fin (bytes p) n=(p,0,0):=fun n hn=>by
  unfold fin
  rw [if_neg (by omega),zwq g n hn]
 unfold dec
 rw [if_neg (by rw [chk_bytes g];simp),b0,h4]
 by_cases h:p.pad=0
 · rw [if_pos h,if_neg (by decide)]
   exact hf 0 (by omega)
 · rw [if_neg h,if_pos rfl]
   unfold decP
   rw [zib g,zmg g h,if_neg (by simp)]
   have:=g.pad0
   exact hf _ (by simp only;omega)
end
theorem zmh (n:Nat):Within 0 255 (List.replicate n 0):=fun z hz=>by rw [List.eq_of_mem_replicate hz];omega
theorem bytes_facts {p:Pkt} (g:Good p):Within 0 255 (bytes p)∧12≤(bytes p).length∧(bytes p).length≤6000:=by
 have hl:=zcx p
 have ht:=zez g
 have hx:=zhb p
 have h1:=g.lmx
 have h2:=g.let_
 have h3:=g.lpl
 have h4:=g.pad1
 have h5:(extB p).length≤1024:=by rw [hx];split<;>omega
 refine ⟨?_,by omega,by omega⟩
 have w12:Within 0 255 (p12 p):=by
  unfold p12
  refine Within.append (Within.append (Within.append ?_ (zio _ _)) (zio _ _)) (zio _ _)
  intro z hz
  have e0:0≤x0 p∧x0 p≤255:=by
   unfold x0
   constructor<;>(split<;>split<;>omega)
  have e1:0≤x1 p∧x1 p≤255:=by
   have:=g.ty0;have:=g.ty1
   unfold x1
   constructor<;>(split<;>omega)
  simp at hz
  rcases hz with rfl|rfl
  · exact e0
  · exact e1
 have wf:Within 0 255 (p.mx.flatMap (be 4)):=by
  intro z hz
  obtain ⟨a,_,ha⟩:=List.mem_flatMap.1 hz
  exact zio 4 a z ha
 have we:Within 0 255 (extB p):=by
  unfold extB
  split
  · exact Within.append (Within.append (zio _ _) (zio _ _)) g.et
  · exact Within.nil _ _
 have wt:Within 0 255 (trail p):=by
  unfold trail
  split
  · exact Within.nil _ _
  · refine Within.append (zmh _) ?_
    intro z hz
    simp at hz
    subst hz
    exact ⟨g.pad0,g.pad1⟩
 rw [zbe]
 exact Within.append w12 (Within.append wf (Within.append we (Within.append g.pl wt)))
end Pk
end Go.Proofs.YtbcgnddpkiemoaaGreat
namespace Go.Proofs.YtbcgnddpkiemoaaGreat
attribute [local go_sem ↓] zab zac
attribute [local go_sem] zaa zad
open Go.RowKit
theorem zoy:(Tryz.prog.info? 112).map (fun i=>(i.zero,i.size,i.bytes))=some (some (.agg #[.bool false, .int .u8 0, .int .u16 0, .int .u32 0, .int .u32 0, .slice none 0 0, .bool false, .int .u16 0, .slice none 0 0, .slice none 0 0, .int .i64 0]),11,104):=by kernel_rfl
theorem zwr (n:Int):IntKind.u16.wrap n=n % 65536:=by simp [IntKind.wrap,IntKind.bits,IntKind.signed]
theorem zws (n:Int):IntKind.u32.wrap n=n % 4294967296:=by simp [IntKind.wrap,IntKind.bits,IntKind.signed]
theorem OnlyB.owns_lt {w w':World} {g base size n c:Nat} {e:TypeId} {A:Option Addr} {xs:List Value} (h:OnlyB g w w') (ho:Owns w base e size A n c xs) (hg:g<base):Owns w' base e size A n c xs:=h.owns ho hg
def pktRow (k:Sb.Pkt) (B:Option Addr) (c:Nat):List Value:=[.bool k.mrk, .int .u8 k.ty, .int .u16 k.sq, .int .u32 k.ti, .int .u32 k.src, .slice none 0 0, .bool false, .int .u16 0, .slice none 0 0, .slice B k.pl.length c, .int .i64 0]
def EmitR (S:List Nat) (g gl:Nat) (p:Sb.Pt) (A:Option Addr) (n c:Nat) (l:List TW) (kind ti:Int) (mrk:Bool) (PA1:Option Addr) (pl:List Int) (plc:Nat) (w:World) (e:Ending) (w':World):Prop :=
 e = .returned (.tuple #[])∧∃ (A':Option Addr) (c':Nat),PM w' S g (Sb.emit p kind ti mrk pl).1 A n c l∧Blk w' gl 105 #[.slice A' 1 c']∧Owns w' w.heap.size 112 11 A' 1 c' (pktRow (Sb.emit p kind ti mrk pl).2 PA1 plc)∧Chg [g,gl] w w'
theorem zkp (S:List Nat) (g gl:Nat) (p:Sb.Pt) (hw:p.wf) (A:Option Addr) (n c:Nat) (l:List TW) (kind ti:Int) (mrk:Bool) (PA1:Option Addr) (pl:List Int) (plc:Nat) (w:World) (h:PM w S g p A n c l) (hg:g∈S) (hgl:gl∈S) (hne:g≠gl) (HL:Blk w gl 105 #[.slice none 0 0]) (hpl:pl.length≤100000):Calls Tryz.prog 45 #[.int .u8 kind, .int .u32 ti, .bool mrk, .slice PA1 pl.length plc, .pointer (some ⟨gl,0,none⟩), .pointer (some ⟨g,0,none⟩)] w (EmitR S g gl p A n c l kind ti mrk PA1 pl plc w):=by
 have H:=Z9 h
 have HL:=Z9 HL
 have s0:=hw.seq
 have s1:=hw.pk
 have s2:=hw.oc
 clear h
 go_enter Tryz.func45,Tryz.ntmps45
 have x1:=H.out.box.cell 1 _ rfl
 have x2:=H.out.box.cell 2 _ rfl
 have l0:=HL.out.at 0 _ rfl
 have lz:=HL.out.frozen 0
 have hlt:=HL.out.lt
 have hlg:=Blk.lt H.out.box
 go_upto_region 1 with (at_builtin;go_loud (refine zao (w0:=w) rfl _ _ 105 rfl w.heap.size 112 11 104 _ Tryz.underlying105 zoy rfl (by decide) none 0 0 [] rfl Owns.nil [.bool mrk, .int .u8 kind, .int .u16 p.seq, .int .u32 ti, .int .u32 p.src, .slice none 0 0, .bool false, .int .u16 0, .slice none 0 0, .slice PA1 pl.length plc, .int .i64 0] rfl (by simp [Value.oneCell']) rfl (by unfold maxLen;omega) (by omega) (Nat.le_refl _) ?_);intro A9 c9 v1 qo hgr hat;have BY:=HL.out.grown hgr (by simp [ownB]);have y0:=BY.at 0 _ rfl;have yz:=BY.frozen 0)
 obtain ⟨V1,hV1⟩:∃ W,W=v1.setCell ⟨gl,0,none⟩ (.slice A9 1 c9):=⟨_,rfl⟩
 rw [← hV1]
 have OV:OnlyB gl v1 V1:=by rw [hV1];exact OnlyB.setCell _ _ _ _
 have BL:=Z9 (show Blk V1 gl 105 #[.slice A9 1 c9] by rw [hV1];exact BY.set_ 0 _)
 have C1:Chg [gl] w V1:=(Chg.of_grown hgr (by simp [ownB])).trans (Chg.of_only OV (by simp))
 have HO:=Z9 (OV.owns (by simpa using qo) hlt)
 replace H:=Z9 (H.out.chg C1 (by simpa using hgl) (by simpa using hne))
 replace C1:=Z9 (C1.more (T:=[g,gl]) (by simp))
 clear hV1 OV BY y0 yz qo hgr hat l0 lz x1 x2 HL
 have ew:IntKind.u32.wrap (pl.length:Int)=(pl.length:Int):=by rw [zws];omega
 have xc:=H.out.box.cell 2 _ rfl
 have xz:=Blk.frozen H.out.box 2
 go_upto_region 2 with fail
 obtain ⟨V2,hV⟩:∃ W,W=V1.setCell ⟨g,2,none⟩ (.int .u16 (IntKind.u16.wrap (p.seq+1))):=⟨_,rfl⟩
 rw [← hV]
 rw [zwr] at hV
 replace H:=Z9 (show PM V2 S g { p with seq:=(p.seq+1) % 65536 } A n c l by rw [hV];exact H.out.set hg 2 _ _ rfl rfl)
 have OV:OnlyB g V1 V2:=by rw [hV];exact OnlyB.setCell _ _ _ _
 replace BL:=Z9 (OV.blk BL.out (fun e=>hne e.symm))
 replace HO:=Z9 (OV.owns_lt HO.out hlg)
 replace C1:=Z9 (C1.out.trans (Chg.of_only OV (by simp)))
 clear hV OV xc xz
 have xc:=H.out.box.cell 46 _ rfl
 have xz:=Blk.frozen H.out.box 46
 go_upto_region 3 with fail
 obtain ⟨V3,hV⟩:∃ W,W=V2.setCell ⟨g,46,none⟩ (.int .u32 ((p.pk+1) % 4294967296)):=⟨_,rfl⟩
 rw [← hV]
 replace H:=Z9 (show PM V3 S g { p with seq:=(p.seq+1) % 65536,pk:=(p.pk+1) % 4294967296 } A n c l by rw [hV];exact H.out.set hg 46 _ _ rfl rfl)
 have OV:OnlyB g V2 V3:=by rw [hV];exact OnlyB.setCell _ _ _ _
 replace BL:=Z9 (OV.blk BL.out (fun e=>hne e.symm))
 replace HO:=Z9 (OV.owns_lt HO.out hlg)
 replace C1:=Z9 (C1.out.trans (Chg.of_only OV (by simp)))
 clear hV OV xc xz
 have xc:=H.out.box.cell 47 _ rfl
 have xz:=Blk.frozen H.out.box 47
 go_wp2_with fail
 obtain ⟨V4,hV⟩:∃ W,W=V3.setCell ⟨g,47,none⟩ (.int .u32 ((p.oc+(pl.length:Int)) % 4294967296)):=⟨_,rfl⟩
 rw [← hV]
 replace H:=Z9 (show PM V4 S g (Sb.emit p kind ti mrk pl).1 A n c l by rw [hV];exact H.out.set hg 47 _ _ rfl rfl)
 have OV:OnlyB g V3 V4:=by rw [hV];exact OnlyB.setCell _ _ _ _
 replace BL:=Z9 (OV.blk BL.out (fun e=>hne e.symm))
 replace HO:=Z9 (OV.owns_lt HO.out hlg)
 replace C1:=Z9 (C1.out.trans (Chg.of_only OV (by simp)))
 clear hV OV xc xz
 go_end0
 exact ⟨rfl,A9,c9,H.out,BL.out,HO.out,C1.out⟩
end Go.Proofs.YtbcgnddpkiemoaaGreat
namespace Go.Proofs.YtbcgnddpkiemoaaGreat
open Go.RowKit
def Sb.Pkt.pk (k:Sb.Pkt):Pk.Pkt:=⟨k.mrk,k.ty,k.sq,k.ti,k.src,[],false,0,[],k.pl,0⟩
structure Sb.Pkt.ok (k:Sb.Pkt):Prop where
 ty0:0≤k.ty
 ty1:k.ty≤127
 sq0:0≤k.sq
 sq1:k.sq≤65535
 ti0:0≤k.ti
 ti1:k.ti≤4294967295
 so0:0≤k.src
 so1:k.src≤4294967295
 pl:Within 0 255 k.pl
 len:k.pl.length≤1500
theorem Sb.Pkt.ok.good {k:Sb.Pkt} (h:k.ok):Pk.Good k.pk :=
 ⟨h.ty0,h.ty1,⟨h.sq0,h.sq1⟩,⟨h.ti0,h.ti1⟩,⟨h.so0,h.so1⟩,⟨Int.le_refl 0,(by decide:(0:Int)≤65535)⟩,Within.nil _ _,Within.nil _ _,h.pl,Int.le_refl _,(by decide:(0:Int)≤255),fun _=>⟨rfl,rfl⟩,rfl,by show 0≤15;omega,by show 0≤1020;omega,h.len⟩
theorem Sb.Pkt.ok.bytes {k:Sb.Pkt} (h:k.ok):Within 0 255 (Pk.bytes k.pk)∧(Pk.bytes k.pk).length≤6000∧Pk.fin (Pk.bytes k.pk) 0=(k.pk,0,0)∧(Pk.chk (Pk.bytes k.pk)).2=0∧Pk.ext (Pk.bytes k.pk)=false∧(Pk.bytes k.pk).getD 0 0 / 32 % 2=0:=by
 have g:=h.good
 have h1:=Pk.bytes_facts g
 have h2:=Pk.chk_bytes g
 have h3:=Pk.ext_eq g
 have h4:=(Pk.x0_facts g).2.2.2
 rw [← Pk.b0] at h4
 have h5:(Pk.bytes k.pk).getD 0 0 / 32 % 2=0:=h4
 have h6:=Pk.dec_enc g
 unfold Pk.dec at h6
 rw [if_neg (by rw [h2];exact fun h=>h rfl),if_neg (by omega)] at h6
 exact ⟨h1.1,h1.2.2,h6,by rw [h2],h3,h5⟩
theorem zoz (k:Sb.Pkt) (h:k.ok) (A1 A2 B:Option Addr) (c1 c2 c:Nat) (w:World) (hB:IntsAt w w.heap.size .u8 B k.pl):Calls Tryz.prog 24 #[.agg #[.bool k.mrk, .int .u8 k.ty, .int .u16 k.sq, .int .u32 k.ti, .int .u32 k.src, .slice A1 0 c1, .bool false, .int .u16 0, .slice A2 0 c2, .slice B k.pl.length c, .int .i64 0]] w (PEncRC (Pk.bytes k.pk,0) w):=by
 obtain ⟨mk,ty,sq,ti,so,pl⟩:=k
 obtain ⟨h1,h2,h3,h4,h5,h6,h7,h8,h9,h10⟩:=h
 cases mk
 · exact zur ty sq ti so A1 [] c1 0 A2 [] c2 B pl c 0 w h1 h2 h3 h4 h5 h6 h7 h8 (by decide) (by decide) rfl (by decide) (by decide) rfl h10 (Within.nil _ _) (by decide) ⟨rfl,rfl⟩ IntsAt.nil IntsAt.nil hB
 · exact zus ty sq ti so A1 [] c1 0 A2 [] c2 B pl c 0 w h1 h2 h3 h4 h5 h6 h7 h8 (by decide) (by decide) rfl (by decide) (by decide) rfl h10 (Within.nil _ _) (by decide) ⟨rfl,rfl⟩ IntsAt.nil IntsAt.nil hB
def PktR (k:Sb.Pkt) (w:World) (e:Ending) (w':World):Prop :=
 ∃ (Mx:Option Addr) (cm:Nat) (Et:Option Addr) (ce:Nat) (Pl:Option Addr) (cp:Nat),e = .returned (.tuple #[.agg #[.bool k.mrk, .int .u8 k.ty, .int .u16 k.sq, .int .u32 k.ti, .int .u32 k.src, .slice Mx 0 cm, .bool false, .int .u16 0, .slice Et 0 ce, .slice Pl k.pl.length cp, .int .i64 0], .int .i64 0, .int .u8 0])∧k.pl.length≤cp∧IntsNew w.heap.size w' .u8 Pl k.pl∧Below w.heap.size w w'
theorem zpa (k:Sb.Pkt) (h:k.ok) (A:Option Addr) (n c:Nat) (hn:(Pk.bytes k.pk).length=n) (hc:n≤c) (w:World) (hA:IntsAt w w.heap.size .u8 A (Pk.bytes k.pk)):Calls Tryz.prog 25 #[.slice A n c] w (PktR k w):=by
 subst hn
 obtain ⟨h1,h2,h3,h4,h5,h6⟩:=h.bytes
 have h7:=zrs A (Pk.bytes k.pk) c w hA h1 (by omega) hc h4 h5 h6
 rw [h3] at h7
 refine h7.mono ?_
 rintro e w' ⟨Mx,cm,Et,ce,Pl,cp,rfl,hcp,_,_,hI,hb⟩
 exact ⟨Mx,cm,Et,ce,Pl,cp,rfl,hcp,hI,hb⟩
end Go.Proofs.YtbcgnddpkiemoaaGreat
namespace Go.Proofs.YtbcgnddpkiemoaaGreat
attribute [local go_sem ↓] zab zac
attribute [local go_sem] zaa zad
open Go.RowKit
theorem zrt:(Tryz.prog.info? 220).map (fun i=>(i.zero,i.size,i.bytes))=some (some (.agg #[.int .i64 0, .int .i64 0, .int .i64 0, .bool false, .int .u8 0, .slice none 0 0]),6,56):=by kernel_rfl
theorem zru:(Tryz.prog.info? 5).map (fun i=>(i.zero,i.size,i.bytes))=some (some (.int .u8 0),1,1):=by kernel_rfl
theorem QOwn.only {w w':World} {g base n c:Nat} {A:Option Addr} {l:List TW} (h:QOwn w base A n c l) (ho:OnlyB g w w') (hg:g<base):QOwn w' base A n c l :=
 ⟨h.len,ho.owns h.own hg,fun a ha h0=>by
  obtain ⟨b,off,e,hlt,hc⟩:=h.pay a ha h0
  have:=h.new a ha h0 b off e
  exact ⟨b,off,e,by rw [ho.2];exact hlt,fun i hi=>(ho.cell (show b≠g by omega)).trans (hc i hi)⟩,h.far,h.new,h.cap⟩
def CopyR (s:Jb.Jt) (l:List TW) (w:World) (e:Ending) (w':World):Prop :=
 ∃ (A':Option Addr) (c':Nat) (l':List TW),e = .returned (.agg (JW s A' l.length c').toArray)∧l'.map TW.w=l.map TW.w∧QOwn w' (w.heap.size+2) A' l.length c' l'∧Below w.heap.size w w'
theorem zfn (s:Jb.Jt) (A:Option Addr) (l:List TW) (n c:Nat) (w:World) (hn:l.length=n) (hl:n≤100000) (hA:Wts w w.heap.size A l) (hp:∀ a∈l,a.w.m.pl.length≤1000000):Calls Tryz.prog 39 #[.agg #[.int .i64 s.least, .int .i64 s.most, .int .i64 s.now, .bool s.on, .int .i64 s.zero, .int .i64 s.first, .int .i64 s.high, .int .i64 s.done, .int .i64 s.spread, .int .i64 s.trans, .slice A n c, .int .i64 s.late, .int .i64 s.twice, .int .i64 s.played]] w (CopyR s l w):=by
 subst hn
 have HA:=Z9 hA
 have HP:=Z9 hp
 clear hA hp
 have BS:=Z9 ((Blk.new w 37 (JW s A l.length c).toArray).push (.cells (JW Jb.Jt.none none 0 0).toArray 37))
 have BR:=Z9 (Blk.new1 w (.cells (JW s A l.length c).toArray 37) 37 (JW Jb.Jt.none none 0 0).toArray)
 have U0:=Z9 (((Bel.refl w).push (.cells (JW s A l.length c).toArray 37)).push (.cells (JW Jb.Jt.none none 0 0).toArray 37))
 go_enter Tryz.func39,Tryz.ntmps39
 go_upto_region 1 with fail
 obtain ⟨W0,hW0⟩:∃ W,W=(w.alloc (Obj.cells #[.int .i64 s.least, .int .i64 s.most, .int .i64 s.now, .bool s.on, .int .i64 s.zero, .int .i64 s.first, .int .i64 s.high, .int .i64 s.done, .int .i64 s.spread, .int .i64 s.trans, .slice A l.length c, .int .i64 s.late, .int .i64 s.twice, .int .i64 s.played] 37)).alloc (Obj.cells (JW Jb.Jt.none none 0 0).toArray 37):=⟨_,rfl⟩
 change Code.wp _ _ _ _ ((w.alloc (Obj.cells #[.int .i64 s.least, .int .i64 s.most, .int .i64 s.now, .bool s.on, .int .i64 s.zero, .int .i64 s.first, .int .i64 s.high, .int .i64 s.done, .int .i64 s.spread, .int .i64 s.trans, .slice A l.length c, .int .i64 s.late, .int .i64 s.twice, .int .i64 s.played] 37)).alloc (Obj.cells (JW Jb.Jt.none none 0 0).toArray 37))
 rw [← hW0]
 change Hid (Blk ((w.alloc (Obj.cells #[.int .i64 s.least, .int .i64 s.most, .int .i64 s.now, .bool s.on, .int .i64 s.zero, .int .i64 s.first, .int .i64 s.high, .int .i64 s.done, .int .i64 s.spread, .int .i64 s.trans, .slice A l.length c, .int .i64 s.late, .int .i64 s.twice, .int .i64 s.played] 37)).alloc (Obj.cells (JW Jb.Jt.none none 0 0).toArray 37)) _ _ _) at BS BR
 change Hid (Bel w ((w.alloc (Obj.cells #[.int .i64 s.least, .int .i64 s.most, .int .i64 s.now, .bool s.on, .int .i64 s.zero, .int .i64 s.first, .int .i64 s.high, .int .i64 s.done, .int .i64 s.spread, .int .i64 s.trans, .slice A l.length c, .int .i64 s.late, .int .i64 s.twice, .int .i64 s.played] 37)).alloc (Obj.cells (JW Jb.Jt.none none 0 0).toArray 37))) at U0
 rw [← hW0] at BS BR U0
 clear hW0
 have x10:=BS.out.at 10 (.slice A l.length c) rfl
 go_wp2_with fail
 go_loopg [3,9] l.length (fun gk s3 i wr => ∃ (k:Nat) (A':Option Addr) (c':Nat) (l':List TW),gk+k=l.length∧s3 = .slice A' k c'∧i = .int .i64 k∧Hid (l'.map TW.w=(l.map TW.w).take k)∧Hid (QOwn wr (w.heap.size+2) A' k c' l')∧Hid (Blk wr w.heap.size 37 (JW s A l.length c).toArray)∧Hid (Blk wr (w.heap.size+1) 37 (JW Jb.Jt.none none 0 0).toArray)∧Hid (Bel w wr))
 case atStart=>exact ⟨0,none,0,[],rfl,rfl,rfl,Z9 rfl,Z9 QOwn.nil,BS,BR,U0⟩
 case round =>
  obtain ⟨k,A',c',l',hgk,rfl,rfl,HL,HO,BS,BR,U⟩:=hrel
  have hi0:(0:Int)≤(k:Int):=by omega
  have hl2:=BR.out.lt
  by_cases hk:k<l.length
  rotate_left
  · obtain rfl:k=l.length:=by omega
    have hi1:(l.length:Int)≤(l.length:Int):=Int.le_refl _
    have x10:=BS.out.at 10 (.slice A l.length c) rfl
    have fz:=BS.out.frozen 10
    go_upto_region 9 with fail
    obtain ⟨V,hV⟩:∃ W,W=wr.setCell ⟨w.heap.size,10,none⟩ (.slice A' l.length c'):=⟨_,rfl⟩
    rw [← hV]
    have OV:OnlyB w.heap.size wr V:=by rw [hV];exact OnlyB.setCell _ _ _ _
    have BV:Blk V w.heap.size 37 (JW s A' l.length c').toArray:=by rw [hV];exact BS.out.set_ 10 _
    have BR2:=OV.blk BR.out (by omega)
    have U2:=OV.bel U.out (Nat.le_refl _)
    have HO2:Owns V _ _ _ _ _ _ _:=OV.owns HO.out.own (by omega)
    clear x10 fz hV
    go_wp2_with (first|(refine zae rfl 37 (.tmp 1) rfl w.heap.size 0 rfl 37 (JW s A' l.length c') BV 14 _ Tryz.underlying37 zbi (Nat.le_refl 14) _ rfl rfl ?_)|(refine zaf rfl 37 (.tmp 2) (.tmp 26) rfl (w.heap.size+1) 0 rfl 37 _ BR2 (JW s A' l.length c') rfl zbi (Nat.le_refl 14) rfl (JW s A' l.length c') rfl ?_;intro WF BF OF))
    refine bodyPost_ret (v := .agg (JW s A' l.length c').toArray) (results_cell_row (p:=2) (ty:=37) rfl _ _ (w.heap.size+1) 37 _ (0,0) _ rfl BF Tryz.underlying37 rfl zbi) rfl ⟨A',c',l',rfl,by rw [HL.out,List.take_of_length_le (by simp)],?_,OF.bel U2 (by omega)⟩
    exact ((HO.out.only OV (by omega)).only OF (by omega))
  have hi1:(k:Int)<(l.length:Int):=by omega
  obtain ⟨a,ha⟩:∃ a,l[k]? = some a:=⟨_,List.getElem?_eq_getElem hk⟩
  obtain ⟨b,off,rfl,hbB,e0,e1,e2,e3,e4,e5⟩:=zen (HA.out.1.keep (fun p hp=>U.out.cell hp)) ha
  have hpa:=HP.out a (List.mem_of_getElem? ha)
  have hia:=(HA.out.2 a (List.mem_of_getElem? ha)).keep (w':=wr) (fun p hp=>U.out.cell hp)
  have hm:(l.map TW.w)[k]? = some a.w:=by rw [List.getElem?_map,ha];rfl
  have HM:=Z9 hm
  obtain ⟨⟨at0,⟨sq0,ti0,mk0,ty0,pl0⟩⟩,B0,c0⟩:=a
  simp only at e0 e1 e2 e3 e4 e5 hpa hia HM
  have IA:=Z9 hia
  have BX:=Z9 (Blk.new wr 220 #[.int .i64 at0, .int .i64 sq0, .int .i64 ti0, .bool mk0, .int .u8 ty0, .slice B0 pl0.length c0])
  clear ha hm hia
  have hbs:=U.out.size
  go_upto_region 5 with fail
  have hp5:0+pl0.length≤maxLen:=by unfold maxLen;omega
  have hp6:(0+pl0.length)*1≤140737488355328:=by omega
  go_upto_region 6 with (at_builtin;go_loud (refine zbj rfl (.const (.slice none 0 0)) _ 69 rfl (wr.heap.size+1) 5 1 (.int .u8 0) Tryz.underlying69 zru rfl none 0 0 [] rfl Owns.nil w.heap.size .u8 B0 c0 pl0 rfl (IA.out.alloc hbs _) hp5 hp6 (by rw [zar];exact Nat.le_refl _) pl0.length (by omega) ?_);intro A9 c9 v1 hown9 hgr9 hat9;have BY:=BX.out.grown hgr9 (by simp [ownB]);have y0:=BY.at 0 _ rfl;have y1:=BY.at 1 _ rfl;have y2:=BY.at 2 _ rfl;have y3:=BY.at 3 _ rfl;have y4:=BY.at 4 _ rfl;have y5:=BY.at 5 _ rfl;have yz:=BY.frozen 5)
  have UW:Below wr.heap.size wr (wr.alloc (.cells #[.int .i64 at0, .int .i64 sq0, .int .i64 ti0, .bool mk0, .int .u8 ty0, .slice B0 pl0.length c0] 220)):=(Below.refl _ _).alloc (Nat.le_refl _) _
  have hI9:IntsNew wr.heap.size v1 .u8 A9 pl0:=IntsNew.of_own hown9 (by omega)
  have UV:Below wr.heap.size wr v1:=UW.grown hgr9 UW.size (fun g e=>by simp [ownB] at e)
  have hne9:∀ g,ownB A9=some g→g≠wr.heap.size:=fun g e=>by have:=(hown9.block g e).1;omega
  obtain ⟨V1,hV1⟩:∃ W,W=v1.setCell ⟨wr.heap.size,5,none⟩ (.slice A9 pl0.length c9):=⟨_,rfl⟩
  rw [← hV1]
  have OV:OnlyB wr.heap.size v1 V1:=by rw [hV1];exact OnlyB.setCell _ _ _ _
  have BV:Blk V1 wr.heap.size 220 #[.int .i64 at0, .int .i64 sq0, .int .i64 ti0, .bool mk0, .int .u8 ty0, .slice A9 pl0.length c9]:=by rw [hV1];exact BY.set_ 5 _
  have HI9:Hid (IntsNew wr.heap.size V1 .u8 A9 pl0):=Z9 (IntsNew.of_own (base:=wr.heap.size+1) (OV.owns hown9 (by omega)) (by omega))
  have HCP9:=Z9 (show pl0.length≤c9 from Owns.cap hown9)
  replace UV:=Z9 (OV.below UV UV.size (Nat.le_refl _))
  have HO1:=Z9 (HO.out.below UV.out)
  clear hV1 OV BY y0 y1 y2 y3 y4 y5 yz hgr9 hown9 hat9 hI9 hne9 UW BX IA hp5 hp6
  have z0:=BV.at 0 _ rfl
  have z1:=BV.at 1 _ rfl
  have z2:=BV.at 2 _ rfl
  have z3:=BV.at 3 _ rfl
  have z4:=BV.at 4 _ rfl
  have z5:=BV.at 5 _ rfl
  clear BV e0 e1 e2 e3 e4 e5
  have h5:(k+1)*56≤140737488355328:=by omega
  have h6:k+1≤maxLen:=by unfold maxLen;omega
  have h7:w.heap.size+2≤V1.heap.size:=by have:=UV.out.size;omega
  have HX:=Z9 HO1.out.own
  go_wp2_with (at_builtin;go_loud (refine zao (w0:=V1) rfl _ _ 35 rfl (w.heap.size+2) 220 6 56 _ Tryz.underlying35 zrt rfl (by decide) A' k c' _ rfl HX.out [.int .i64 at0, .int .i64 sq0, .int .i64 ti0, .bool mk0, .int .u8 ty0, .slice A9 pl0.length c9] rfl (by simp [Value.oneCell']) rfl h6 h5 h7 ?_);intro An cn wn qo hgr hat)
  have hAk:∀ g,ownB A'=some g→w.heap.size+2≤g:=fun g e=>(HO.out.own.block g e).1
  have BS2:=Z9 ((BS.out.below UV.out (by omega)).grown hgr (fun e=>by have:=hAk _ e.symm;omega))
  have BR2:=Z9 ((BR.out.below UV.out (by omega)).grown hgr (fun e=>by have:=hAk _ e.symm;omega))
  have U2:Hid (Bel w wn):=Z9 ((U.out.later UV.out).grown hgr (by have:=UV.out.size;omega) (fun g e=>by have:=hAk g e;omega))
  have HO2:=Z9 (HO.out.step (a:=⟨⟨at0,⟨sq0,ti0,mk0,ty0,pl0⟩⟩,A9,c9⟩) (by omega) UV.out (Below.refl _ _) hgr (by simpa [TW.row] using qo) hat HI9.out HCP9.out)
  clear qo hgr hat hAk z0 z1 z2 z3 z4 z5 h5 h6 h7
  go_wp2_with fail
  go_roundg (gk-1)
  case measure=>omega
  case rel=>exact ⟨k+1,An,cn,l' ++ [⟨⟨at0,⟨sq0,ti0,mk0,ty0,pl0⟩⟩,A9,c9⟩],by omega,rfl,by go_num,Z9 (by rw [List.map_append,HL.out,List.take_add_one,HM.out];rfl),HO2,BS2,BR2,U2⟩
def EncR (bs:List Int) (s:Int×Int) (w:World) (e:Ending) (w':World):Prop:=∃ (A':Option Addr) (c':Nat),e = .returned (.tuple #[.slice A' bs.length c', .agg #[.int .i64 s.1, .int .i64 s.2], .int .u8 0])∧IntsNew w.heap.size w' .u8 A' bs∧Below w.heap.size w w'
theorem ztb (v i:Int) (A:Option Addr) (zs:List Int) (c b:Nat) (w:World) (hA:IntsAt w w.heap.size .i16 A zs) (hz:Within (-32768) 32767 zs) (h8:zs.length≤8000) (hb:Blk w b 5 #[.int .u8 1]):Calls Tryz.prog 121 #[.agg #[.int .i64 v, .int .i64 i], .slice A zs.length c, .pointer (some ⟨b,0,none⟩)] w (EncR (zs.map Cmp.muZ) (v,i) w):=by
 have k1:=Z9 fun (W:World) hW=>zkw A zs c W hW hz h8
 have U0:=Z9 (((Bel.refl w).push (.cells #[.int .i64 v, .int .i64 i] 30)).push (.cells #[.int .i64 0, .int .i64 0] 30))
 have BS:=Z9 ((Blk.new w 30 #[.int .i64 v, .int .i64 i]).push (.cells #[.int .i64 0, .int .i64 0] 30))
 have BR:=Z9 (Blk.new1 w (.cells #[.int .i64 v, .int .i64 i] 30) 30 #[.int .i64 0, .int .i64 0])
 have IA:=Z9 ((hA.push (.cells #[.int .i64 v, .int .i64 i] 30)).push (.cells #[.int .i64 0, .int .i64 0] 30))
 have BB:=Z9 ((hb.push (.cells #[.int .i64 v, .int .i64 i] 30)).push (.cells #[.int .i64 0, .int .i64 0] 30))
 have hlt:=hb.lt
 clear hA hb hz
 go_enter Tryz.func121,Tryz.ntmps121
 have d0:=BB.out.at 0 _ rfl
 go_wp2_with fail
 refine (k1.out _ IA.out).mono ?_
 rintro e w1 ⟨A1,rfl,hI,hb1⟩
 have U1:=Z9 (U0.out.later hb1)
 have BS1:=Z9 (BS.out.later hb1)
 have BR1:=Z9 (BR.out.later hb1)
 have HI:=Z9 hI
 clear hb1 hI d0
 have c0:=BS1.out.at 0 _ rfl
 have c1:=BS1.out.at 1 _ rfl
 have r0:=BR1.out.at 0 _ rfl
 have r1:=BR1.out.at 1 _ rfl
 have rz:=BR1.out.frozen
 go_upto_region 2 with fail
 go_region
 have RF:=BR1.out.set_ 0 (.int .i64 v)
 have RG:=RF.set_ 1 (.int .i64 i)
 have q1:=RF.at 1 _ rfl
 have RI:IntsNew w.heap.size ((w1.setCell ⟨w.heap.size+1,0,none⟩ (.int .i64 v)).setCell ⟨w.heap.size+1,1,none⟩ (.int .i64 i)) .u8 A1 _:=((HI.out.setCell (p:=⟨w.heap.size+1,0,none⟩) (by simp) (.int .i64 v)).setCell (p:=⟨w.heap.size+1,1,none⟩) (by simp) (.int .i64 i)).less (by simp;omega)
 have UF:Bel w ((w1.setCell ⟨w.heap.size+1,0,none⟩ (.int .i64 v)).setCell ⟨w.heap.size+1,1,none⟩ (.int .i64 i)):=zaj (zaj U1.out (by simp) _) (by simp) _
 go_wp2_with fail
 refine bodyPost_ret (v := .tuple #[.slice A1 zs.length zs.length, .agg #[.int .i64 v, .int .i64 i], .int .u8 0]) (zil Tryz.results121 rfl rfl (run_loadVar_row (P:=Tryz.prog) _ _ _ _ _ _ _ RG.drew Tryz.underlying30 rfl (by kernel_rfl)) rfl) rfl ⟨A1,zs.length,by rw [List.length_map],?_,UF.drew⟩
 exact RI
theorem zwt (v i:Int) (A:Option Addr) (zs:List Int) (c b:Nat) (w:World) (hA:IntsAt w w.heap.size .i16 A zs) (hz:Within (-32768) 32767 zs) (h8:zs.length≤8000) (hb:Blk w b 5 #[.int .u8 2]):Calls Tryz.prog 121 #[.agg #[.int .i64 v, .int .i64 i], .slice A zs.length c, .pointer (some ⟨b,0,none⟩)] w (EncR (zs.map Cmp.aZ) (v,i) w):=by
 have k1:=Z9 fun (W:World) hW=>zpv A zs c W hW hz h8
 have U0:=Z9 (((Bel.refl w).push (.cells #[.int .i64 v, .int .i64 i] 30)).push (.cells #[.int .i64 0, .int .i64 0] 30))
 have BS:=Z9 ((Blk.new w 30 #[.int .i64 v, .int .i64 i]).push (.cells #[.int .i64 0, .int .i64 0] 30))
 have BR:=Z9 (Blk.new1 w (.cells #[.int .i64 v, .int .i64 i] 30) 30 #[.int .i64 0, .int .i64 0])
 have IA:=Z9 ((hA.push (.cells #[.int .i64 v, .int .i64 i] 30)).push (.cells #[.int .i64 0, .int .i64 0] 30))
 have BB:=Z9 ((hb.push (.cells #[.int .i64 v, .int .i64 i] 30)).push (.cells #[.int .i64 0, .int .i64 0] 30))
 have hlt:=hb.lt
 clear hA hb hz
 go_enter Tryz.func121,Tryz.ntmps121
 have d0:=BB.out.at 0 _ rfl
 go_wp2_with fail
 refine (k1.out _ IA.out).mono ?_
 rintro e w1 ⟨A1,rfl,hI,hb1⟩
 have U1:=Z9 (U0.out.later hb1)
 have BS1:=Z9 (BS.out.later hb1)
 have BR1:=Z9 (BR.out.later hb1)
 have HI:=Z9 hI
 clear hb1 hI d0
 have c0:=BS1.out.at 0 _ rfl
 have c1:=BS1.out.at 1 _ rfl
 have r0:=BR1.out.at 0 _ rfl
 have r1:=BR1.out.at 1 _ rfl
 have rz:=BR1.out.frozen
 go_upto_region 2 with fail
 go_region
 have RF:=BR1.out.set_ 0 (.int .i64 v)
 have RG:=RF.set_ 1 (.int .i64 i)
 have q1:=RF.at 1 _ rfl
 have RI:IntsNew w.heap.size ((w1.setCell ⟨w.heap.size+1,0,none⟩ (.int .i64 v)).setCell ⟨w.heap.size+1,1,none⟩ (.int .i64 i)) .u8 A1 _:=((HI.out.setCell (p:=⟨w.heap.size+1,0,none⟩) (by simp) (.int .i64 v)).setCell (p:=⟨w.heap.size+1,1,none⟩) (by simp) (.int .i64 i)).less (by simp;omega)
 have UF:Bel w ((w1.setCell ⟨w.heap.size+1,0,none⟩ (.int .i64 v)).setCell ⟨w.heap.size+1,1,none⟩ (.int .i64 i)):=zaj (zaj U1.out (by simp) _) (by simp) _
 go_wp2_with fail
 refine bodyPost_ret (v := .tuple #[.slice A1 zs.length zs.length, .agg #[.int .i64 v, .int .i64 i], .int .u8 0]) (zil Tryz.results121 rfl rfl (run_loadVar_row (P:=Tryz.prog) _ _ _ _ _ _ _ RG.drew Tryz.underlying30 rfl (by kernel_rfl)) rfl) rfl ⟨A1,zs.length,by rw [List.length_map],?_,UF.drew⟩
 exact RI
section
variable (q:Int) (A:Option Addr) (zs:List Int) (cap:Nat) (w:World)
theorem zjb (q0 : -9223372036854775808≤q) (q1:q≤9223372036854775807) (hA:IntsAt w w.heap.size .i16 A zs) (hz:Within (-32768) 32767 zs) (hl:zs.length≤8000) :
 Calls Tryz.prog 46 #[.agg #[.int .i64 q], .slice A zs.length cap] w fun e w'=>e = .returned (.tuple #[.agg #[.int .i64 (Ev.quiet q zs)], .bool (Ev.quiet q zs==10)])∧Below w.heap.size w w':=by
 have k1:=Z9 fun W h=>zhu A zs cap W h hz hl
 obtain ⟨R,hR⟩:∃ R,R=Ev.quiet q zs:=⟨_,rfl⟩
 rw [← hR]
 unfold Ev.quiet at hR
 have hb:=Ev.lev_bd zs hz
 have IA:=Z9 ((hA.push (.cells #[.int .i64 q] 28)).push (.cells #[.int .i64 0] 28))
 generalize Ev.lev zs=L at *
 clear hz hA
 by_cases hL:L<60
 · rw [if_pos hL] at hR
   subst hR
   go_enter Tryz.func46,Tryz.ntmps46
   go_wp2_with (go_at_call 49;refine (k1.out _ IA.out).mono ?_;rintro e w1 ⟨rfl,rfl⟩)
   refine bodyPost_ret (v := .tuple #[.agg #[.int .i64 0], .bool ((0:Int)==10)]) (by simp [results,Tryz.results46,go_sem]) rfl ⟨rfl,?_⟩
   repeat (first|exact Below.refl _ _|refine Below.drew ?_|refine Below.setCell ?_ (by simp) _|refine Below.alloc ?_ (by simp;try omega) _)
 · rw [if_neg hL] at hR
   have hL':decide (L<60)=false:=by simpa using hL
   have HR:=Z9 hR
   clear hR hL
   go_enter Tryz.func46,Tryz.ntmps46
   go_wp2_with (go_at_call 49;refine (k1.out _ IA.out).mono ?_;rintro e w1 ⟨rfl,rfl⟩)
   refine bodyPost_ret (v := .tuple #[.agg #[.int .i64 R], .bool (R==10)]) (by rw [HR.out];simp [results,Tryz.results46,go_sem]) rfl ⟨rfl,?_⟩
   repeat (first|exact Below.refl _ _|refine Below.drew ?_|refine Below.setCell ?_ (by simp) _|refine Below.alloc ?_ (by simp;try omega) _)
end
end Go.Proofs.YtbcgnddpkiemoaaGreat
